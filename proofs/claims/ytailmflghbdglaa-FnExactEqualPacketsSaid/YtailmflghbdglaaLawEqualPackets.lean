/- laws.FnExactEqualPackets returns true, for all arguments: the walk of the law out of contracts, and the row. No condition. (Printed by lawgen.py.) -/
import Derived.Test.YtailmflghbdglaaEqualPacketsB
import Derived.Test.YtailmflghbdglaaFamPkt
import Derived.Test.YtailmflghbdglaaOpenPkt
import Derived.Test.YtailmflghbdglaaOpen
import Derived.Deep.RegionHeld3
namespace Go.Proofs.Ytailmflghbdglaa
open Go.RowKit
set_option linter.unusedVariables false

set_option maxHeartbeats 2000000 in
set_option maxRecDepth 100000 in
theorem lawEqualPackets (d0 : Pkt) (cs0 : List Value) (d1 : Pkt) (cs1 : List Value) (w : World) (h0 : pktT.R w cs0 d0) (l0 : lenOk_pkt d0) (g0 : rng_pkt d0) (h1 : pktT.R w cs1 d1) (l1 : lenOk_pkt d1) (g1 : rng_pkt d1) :
    Calls Try.prog 10 #[.agg cs0.toArray, .agg cs1.toArray] w fun r w' => r = .returned (.bool true) ∧ Below w.heap.size w w' := by
  obtain ⟨A0_3, cA0_3, A0_9, cA0_9, rfl, _⟩ := pkt_form h0
  have G0 := hid g0
  clear g0
  obtain ⟨A1_3, cA1_3, A1_9, cA1_9, rfl, _⟩ := pkt_form h1
  have G1 := hid g1
  clear g1
  have x0 : Below w.heap.size w ((w.alloc (.cells #[I (d0.kind), I (d0.src), I (d0.dst), .slice A0_3 d0.path.length cA0_3, I (d0.pidx), I (d0.hidx), I (d0.beta), I (d0.rid), I (d0.seq), .slice A0_9 d0.pay.length cA0_9] 40)).alloc (.cells #[I (d1.kind), I (d1.src), I (d1.dst), .slice A1_3 d1.path.length cA1_3, I (d1.pidx), I (d1.hidx), I (d1.beta), I (d1.rid), I (d1.seq), .slice A1_9 d1.pay.length cA1_9] 40)) := by repeat (first | refine ext_alloc ?_ _ | exact Below.refl _ _)
  by_cases z0 : (sz_pkt d0 : Int) ≤ 1048576
  · have y0 : ¬ 1048576 - (sz_pkt d0 : Int) < 0 := by omega
    by_cases z1 : (sz_pkt d1 : Int) ≤ 1048576 - sz_pkt d0
    · have y1 : ¬ 1048576 - sz_pkt d0 - (sz_pkt d1 : Int) < 0 := by omega
      go_enter Try.func10, Try.ntmps10
      have p0_0 : ((w.alloc (.cells #[I (d0.kind), I (d0.src), I (d0.dst), .slice A0_3 d0.path.length cA0_3, I (d0.pidx), I (d0.hidx), I (d0.beta), I (d0.rid), I (d0.seq), .slice A0_9 d0.pay.length cA0_9] 40)).alloc (.cells #[I (d1.kind), I (d1.src), I (d1.dst), .slice A1_3 d1.path.length cA1_3, I (d1.pidx), I (d1.hidx), I (d1.beta), I (d1.rid), I (d1.seq), .slice A1_9 d1.pay.length cA1_9] 40)).cell? ⟨w.heap.size, 0, none⟩ = some (I (d0.kind)) := by simp
      have p0_1 : ((w.alloc (.cells #[I (d0.kind), I (d0.src), I (d0.dst), .slice A0_3 d0.path.length cA0_3, I (d0.pidx), I (d0.hidx), I (d0.beta), I (d0.rid), I (d0.seq), .slice A0_9 d0.pay.length cA0_9] 40)).alloc (.cells #[I (d1.kind), I (d1.src), I (d1.dst), .slice A1_3 d1.path.length cA1_3, I (d1.pidx), I (d1.hidx), I (d1.beta), I (d1.rid), I (d1.seq), .slice A1_9 d1.pay.length cA1_9] 40)).cell? ⟨w.heap.size, 1, none⟩ = some (I (d0.src)) := by simp
      have p0_2 : ((w.alloc (.cells #[I (d0.kind), I (d0.src), I (d0.dst), .slice A0_3 d0.path.length cA0_3, I (d0.pidx), I (d0.hidx), I (d0.beta), I (d0.rid), I (d0.seq), .slice A0_9 d0.pay.length cA0_9] 40)).alloc (.cells #[I (d1.kind), I (d1.src), I (d1.dst), .slice A1_3 d1.path.length cA1_3, I (d1.pidx), I (d1.hidx), I (d1.beta), I (d1.rid), I (d1.seq), .slice A1_9 d1.pay.length cA1_9] 40)).cell? ⟨w.heap.size, 2, none⟩ = some (I (d0.dst)) := by simp
      have p0_3 : ((w.alloc (.cells #[I (d0.kind), I (d0.src), I (d0.dst), .slice A0_3 d0.path.length cA0_3, I (d0.pidx), I (d0.hidx), I (d0.beta), I (d0.rid), I (d0.seq), .slice A0_9 d0.pay.length cA0_9] 40)).alloc (.cells #[I (d1.kind), I (d1.src), I (d1.dst), .slice A1_3 d1.path.length cA1_3, I (d1.pidx), I (d1.hidx), I (d1.beta), I (d1.rid), I (d1.seq), .slice A1_9 d1.pay.length cA1_9] 40)).cell? ⟨w.heap.size, 3, none⟩ = some (.slice A0_3 d0.path.length cA0_3) := by simp
      have p0_4 : ((w.alloc (.cells #[I (d0.kind), I (d0.src), I (d0.dst), .slice A0_3 d0.path.length cA0_3, I (d0.pidx), I (d0.hidx), I (d0.beta), I (d0.rid), I (d0.seq), .slice A0_9 d0.pay.length cA0_9] 40)).alloc (.cells #[I (d1.kind), I (d1.src), I (d1.dst), .slice A1_3 d1.path.length cA1_3, I (d1.pidx), I (d1.hidx), I (d1.beta), I (d1.rid), I (d1.seq), .slice A1_9 d1.pay.length cA1_9] 40)).cell? ⟨w.heap.size, 4, none⟩ = some (I (d0.pidx)) := by simp
      have p0_5 : ((w.alloc (.cells #[I (d0.kind), I (d0.src), I (d0.dst), .slice A0_3 d0.path.length cA0_3, I (d0.pidx), I (d0.hidx), I (d0.beta), I (d0.rid), I (d0.seq), .slice A0_9 d0.pay.length cA0_9] 40)).alloc (.cells #[I (d1.kind), I (d1.src), I (d1.dst), .slice A1_3 d1.path.length cA1_3, I (d1.pidx), I (d1.hidx), I (d1.beta), I (d1.rid), I (d1.seq), .slice A1_9 d1.pay.length cA1_9] 40)).cell? ⟨w.heap.size, 5, none⟩ = some (I (d0.hidx)) := by simp
      have p0_6 : ((w.alloc (.cells #[I (d0.kind), I (d0.src), I (d0.dst), .slice A0_3 d0.path.length cA0_3, I (d0.pidx), I (d0.hidx), I (d0.beta), I (d0.rid), I (d0.seq), .slice A0_9 d0.pay.length cA0_9] 40)).alloc (.cells #[I (d1.kind), I (d1.src), I (d1.dst), .slice A1_3 d1.path.length cA1_3, I (d1.pidx), I (d1.hidx), I (d1.beta), I (d1.rid), I (d1.seq), .slice A1_9 d1.pay.length cA1_9] 40)).cell? ⟨w.heap.size, 6, none⟩ = some (I (d0.beta)) := by simp
      have p0_7 : ((w.alloc (.cells #[I (d0.kind), I (d0.src), I (d0.dst), .slice A0_3 d0.path.length cA0_3, I (d0.pidx), I (d0.hidx), I (d0.beta), I (d0.rid), I (d0.seq), .slice A0_9 d0.pay.length cA0_9] 40)).alloc (.cells #[I (d1.kind), I (d1.src), I (d1.dst), .slice A1_3 d1.path.length cA1_3, I (d1.pidx), I (d1.hidx), I (d1.beta), I (d1.rid), I (d1.seq), .slice A1_9 d1.pay.length cA1_9] 40)).cell? ⟨w.heap.size, 7, none⟩ = some (I (d0.rid)) := by simp
      have p0_8 : ((w.alloc (.cells #[I (d0.kind), I (d0.src), I (d0.dst), .slice A0_3 d0.path.length cA0_3, I (d0.pidx), I (d0.hidx), I (d0.beta), I (d0.rid), I (d0.seq), .slice A0_9 d0.pay.length cA0_9] 40)).alloc (.cells #[I (d1.kind), I (d1.src), I (d1.dst), .slice A1_3 d1.path.length cA1_3, I (d1.pidx), I (d1.hidx), I (d1.beta), I (d1.rid), I (d1.seq), .slice A1_9 d1.pay.length cA1_9] 40)).cell? ⟨w.heap.size, 8, none⟩ = some (I (d0.seq)) := by simp
      have p0_9 : ((w.alloc (.cells #[I (d0.kind), I (d0.src), I (d0.dst), .slice A0_3 d0.path.length cA0_3, I (d0.pidx), I (d0.hidx), I (d0.beta), I (d0.rid), I (d0.seq), .slice A0_9 d0.pay.length cA0_9] 40)).alloc (.cells #[I (d1.kind), I (d1.src), I (d1.dst), .slice A1_3 d1.path.length cA1_3, I (d1.pidx), I (d1.hidx), I (d1.beta), I (d1.rid), I (d1.seq), .slice A1_9 d1.pay.length cA1_9] 40)).cell? ⟨w.heap.size, 9, none⟩ = some (.slice A0_9 d0.pay.length cA0_9) := by simp
      have p1_0 : ((w.alloc (.cells #[I (d0.kind), I (d0.src), I (d0.dst), .slice A0_3 d0.path.length cA0_3, I (d0.pidx), I (d0.hidx), I (d0.beta), I (d0.rid), I (d0.seq), .slice A0_9 d0.pay.length cA0_9] 40)).alloc (.cells #[I (d1.kind), I (d1.src), I (d1.dst), .slice A1_3 d1.path.length cA1_3, I (d1.pidx), I (d1.hidx), I (d1.beta), I (d1.rid), I (d1.seq), .slice A1_9 d1.pay.length cA1_9] 40)).cell? ⟨w.heap.size + 1, 0, none⟩ = some (I (d1.kind)) := by simp
      have p1_1 : ((w.alloc (.cells #[I (d0.kind), I (d0.src), I (d0.dst), .slice A0_3 d0.path.length cA0_3, I (d0.pidx), I (d0.hidx), I (d0.beta), I (d0.rid), I (d0.seq), .slice A0_9 d0.pay.length cA0_9] 40)).alloc (.cells #[I (d1.kind), I (d1.src), I (d1.dst), .slice A1_3 d1.path.length cA1_3, I (d1.pidx), I (d1.hidx), I (d1.beta), I (d1.rid), I (d1.seq), .slice A1_9 d1.pay.length cA1_9] 40)).cell? ⟨w.heap.size + 1, 1, none⟩ = some (I (d1.src)) := by simp
      have p1_2 : ((w.alloc (.cells #[I (d0.kind), I (d0.src), I (d0.dst), .slice A0_3 d0.path.length cA0_3, I (d0.pidx), I (d0.hidx), I (d0.beta), I (d0.rid), I (d0.seq), .slice A0_9 d0.pay.length cA0_9] 40)).alloc (.cells #[I (d1.kind), I (d1.src), I (d1.dst), .slice A1_3 d1.path.length cA1_3, I (d1.pidx), I (d1.hidx), I (d1.beta), I (d1.rid), I (d1.seq), .slice A1_9 d1.pay.length cA1_9] 40)).cell? ⟨w.heap.size + 1, 2, none⟩ = some (I (d1.dst)) := by simp
      have p1_3 : ((w.alloc (.cells #[I (d0.kind), I (d0.src), I (d0.dst), .slice A0_3 d0.path.length cA0_3, I (d0.pidx), I (d0.hidx), I (d0.beta), I (d0.rid), I (d0.seq), .slice A0_9 d0.pay.length cA0_9] 40)).alloc (.cells #[I (d1.kind), I (d1.src), I (d1.dst), .slice A1_3 d1.path.length cA1_3, I (d1.pidx), I (d1.hidx), I (d1.beta), I (d1.rid), I (d1.seq), .slice A1_9 d1.pay.length cA1_9] 40)).cell? ⟨w.heap.size + 1, 3, none⟩ = some (.slice A1_3 d1.path.length cA1_3) := by simp
      have p1_4 : ((w.alloc (.cells #[I (d0.kind), I (d0.src), I (d0.dst), .slice A0_3 d0.path.length cA0_3, I (d0.pidx), I (d0.hidx), I (d0.beta), I (d0.rid), I (d0.seq), .slice A0_9 d0.pay.length cA0_9] 40)).alloc (.cells #[I (d1.kind), I (d1.src), I (d1.dst), .slice A1_3 d1.path.length cA1_3, I (d1.pidx), I (d1.hidx), I (d1.beta), I (d1.rid), I (d1.seq), .slice A1_9 d1.pay.length cA1_9] 40)).cell? ⟨w.heap.size + 1, 4, none⟩ = some (I (d1.pidx)) := by simp
      have p1_5 : ((w.alloc (.cells #[I (d0.kind), I (d0.src), I (d0.dst), .slice A0_3 d0.path.length cA0_3, I (d0.pidx), I (d0.hidx), I (d0.beta), I (d0.rid), I (d0.seq), .slice A0_9 d0.pay.length cA0_9] 40)).alloc (.cells #[I (d1.kind), I (d1.src), I (d1.dst), .slice A1_3 d1.path.length cA1_3, I (d1.pidx), I (d1.hidx), I (d1.beta), I (d1.rid), I (d1.seq), .slice A1_9 d1.pay.length cA1_9] 40)).cell? ⟨w.heap.size + 1, 5, none⟩ = some (I (d1.hidx)) := by simp
      have p1_6 : ((w.alloc (.cells #[I (d0.kind), I (d0.src), I (d0.dst), .slice A0_3 d0.path.length cA0_3, I (d0.pidx), I (d0.hidx), I (d0.beta), I (d0.rid), I (d0.seq), .slice A0_9 d0.pay.length cA0_9] 40)).alloc (.cells #[I (d1.kind), I (d1.src), I (d1.dst), .slice A1_3 d1.path.length cA1_3, I (d1.pidx), I (d1.hidx), I (d1.beta), I (d1.rid), I (d1.seq), .slice A1_9 d1.pay.length cA1_9] 40)).cell? ⟨w.heap.size + 1, 6, none⟩ = some (I (d1.beta)) := by simp
      have p1_7 : ((w.alloc (.cells #[I (d0.kind), I (d0.src), I (d0.dst), .slice A0_3 d0.path.length cA0_3, I (d0.pidx), I (d0.hidx), I (d0.beta), I (d0.rid), I (d0.seq), .slice A0_9 d0.pay.length cA0_9] 40)).alloc (.cells #[I (d1.kind), I (d1.src), I (d1.dst), .slice A1_3 d1.path.length cA1_3, I (d1.pidx), I (d1.hidx), I (d1.beta), I (d1.rid), I (d1.seq), .slice A1_9 d1.pay.length cA1_9] 40)).cell? ⟨w.heap.size + 1, 7, none⟩ = some (I (d1.rid)) := by simp
      have p1_8 : ((w.alloc (.cells #[I (d0.kind), I (d0.src), I (d0.dst), .slice A0_3 d0.path.length cA0_3, I (d0.pidx), I (d0.hidx), I (d0.beta), I (d0.rid), I (d0.seq), .slice A0_9 d0.pay.length cA0_9] 40)).alloc (.cells #[I (d1.kind), I (d1.src), I (d1.dst), .slice A1_3 d1.path.length cA1_3, I (d1.pidx), I (d1.hidx), I (d1.beta), I (d1.rid), I (d1.seq), .slice A1_9 d1.pay.length cA1_9] 40)).cell? ⟨w.heap.size + 1, 8, none⟩ = some (I (d1.seq)) := by simp
      have p1_9 : ((w.alloc (.cells #[I (d0.kind), I (d0.src), I (d0.dst), .slice A0_3 d0.path.length cA0_3, I (d0.pidx), I (d0.hidx), I (d0.beta), I (d0.rid), I (d0.seq), .slice A0_9 d0.pay.length cA0_9] 40)).alloc (.cells #[I (d1.kind), I (d1.src), I (d1.dst), .slice A1_3 d1.path.length cA1_3, I (d1.pidx), I (d1.hidx), I (d1.beta), I (d1.rid), I (d1.seq), .slice A1_9 d1.pay.length cA1_9] 40)).cell? ⟨w.heap.size + 1, 9, none⟩ = some (.slice A1_9 d1.pay.length cA1_9) := by simp
      go_wp2_with (fail)
      refine (szc_pkt d0 _ (1048576) _ (pktT.kp h0 x0) (by omega) (by omega) l0).mono ?_
      rintro e w1 ⟨rfl, hb1⟩
      rw [szI_yes (by omega)]
      have p0_0' := ck hb1 p0_0
      have p0_1' := ck hb1 p0_1
      have p0_2' := ck hb1 p0_2
      have p0_3' := ck hb1 p0_3
      have p0_4' := ck hb1 p0_4
      have p0_5' := ck hb1 p0_5
      have p0_6' := ck hb1 p0_6
      have p0_7' := ck hb1 p0_7
      have p0_8' := ck hb1 p0_8
      have p0_9' := ck hb1 p0_9
      have p1_0' := ck hb1 p1_0
      have p1_1' := ck hb1 p1_1
      have p1_2' := ck hb1 p1_2
      have p1_3' := ck hb1 p1_3
      have p1_4' := ck hb1 p1_4
      have p1_5' := ck hb1 p1_5
      have p1_6' := ck hb1 p1_6
      have p1_7' := ck hb1 p1_7
      have p1_8' := ck hb1 p1_8
      have p1_9' := ck hb1 p1_9
      have x_1 := ext_trans x0 hb1
      clear p0_0 p0_1 p0_2 p0_3 p0_4 p0_5 p0_6 p0_7 p0_8 p0_9 p1_0 p1_1 p1_2 p1_3 p1_4 p1_5 p1_6 p1_7 p1_8 p1_9
      go_wp2_with (fail)
      refine (szc_pkt d1 _ (1048576 - sz_pkt d0) _ (pktT.kp h1 x_1) (by omega) (by omega) l1).mono ?_
      rintro e w2 ⟨rfl, hb2⟩
      rw [szI_yes (by omega)]
      have p0_0'' := ck hb2 p0_0'
      have p0_1'' := ck hb2 p0_1'
      have p0_2'' := ck hb2 p0_2'
      have p0_3'' := ck hb2 p0_3'
      have p0_4'' := ck hb2 p0_4'
      have p0_5'' := ck hb2 p0_5'
      have p0_6'' := ck hb2 p0_6'
      have p0_7'' := ck hb2 p0_7'
      have p0_8'' := ck hb2 p0_8'
      have p0_9'' := ck hb2 p0_9'
      have p1_0'' := ck hb2 p1_0'
      have p1_1'' := ck hb2 p1_1'
      have p1_2'' := ck hb2 p1_2'
      have p1_3'' := ck hb2 p1_3'
      have p1_4'' := ck hb2 p1_4'
      have p1_5'' := ck hb2 p1_5'
      have p1_6'' := ck hb2 p1_6'
      have p1_7'' := ck hb2 p1_7'
      have p1_8'' := ck hb2 p1_8'
      have p1_9'' := ck hb2 p1_9'
      have x_2 := ext_trans x_1 hb2
      clear p0_0' p0_1' p0_2' p0_3' p0_4' p0_5' p0_6' p0_7' p0_8' p0_9' p1_0' p1_1' p1_2' p1_3' p1_4' p1_5' p1_6' p1_7' p1_8' p1_9'
      have sz0 : sz_pkt d0 ≤ 1048576 := by omega
      have sz1 : sz_pkt d1 ≤ 1048576 := by omega
      go_wp2_with (fail)
      go_region_held3 (fun w' => w'.cell? ⟨w.heap.size, 0, none⟩ = some (I (d0.kind)) ∧ w'.cell? ⟨w.heap.size, 1, none⟩ = some (I (d0.src)) ∧ w'.cell? ⟨w.heap.size, 2, none⟩ = some (I (d0.dst)) ∧ w'.cell? ⟨w.heap.size, 3, none⟩ = some (.slice A0_3 d0.path.length cA0_3) ∧ w'.cell? ⟨w.heap.size, 4, none⟩ = some (I (d0.pidx)) ∧ w'.cell? ⟨w.heap.size, 5, none⟩ = some (I (d0.hidx)) ∧ w'.cell? ⟨w.heap.size, 6, none⟩ = some (I (d0.beta)) ∧ w'.cell? ⟨w.heap.size, 7, none⟩ = some (I (d0.rid)) ∧ w'.cell? ⟨w.heap.size, 8, none⟩ = some (I (d0.seq)) ∧ w'.cell? ⟨w.heap.size, 9, none⟩ = some (.slice A0_9 d0.pay.length cA0_9) ∧ w'.cell? ⟨w.heap.size + 1, 0, none⟩ = some (I (d1.kind)) ∧ w'.cell? ⟨w.heap.size + 1, 1, none⟩ = some (I (d1.src)) ∧ w'.cell? ⟨w.heap.size + 1, 2, none⟩ = some (I (d1.dst)) ∧ w'.cell? ⟨w.heap.size + 1, 3, none⟩ = some (.slice A1_3 d1.path.length cA1_3) ∧ w'.cell? ⟨w.heap.size + 1, 4, none⟩ = some (I (d1.pidx)) ∧ w'.cell? ⟨w.heap.size + 1, 5, none⟩ = some (I (d1.hidx)) ∧ w'.cell? ⟨w.heap.size + 1, 6, none⟩ = some (I (d1.beta)) ∧ w'.cell? ⟨w.heap.size + 1, 7, none⟩ = some (I (d1.rid)) ∧ w'.cell? ⟨w.heap.size + 1, 8, none⟩ = some (I (d1.seq)) ∧ w'.cell? ⟨w.heap.size + 1, 9, none⟩ = some (.slice A1_9 d1.pay.length cA1_9)) (first | exact ⟨p0_0'', p0_1'', p0_2'', p0_3'', p0_4'', p0_5'', p0_6'', p0_7'', p0_8'', p0_9'', p1_0'', p1_1'', p1_2'', p1_3'', p1_4'', p1_5'', p1_6'', p1_7'', p1_8'', p1_9''⟩ | exact ⟨p0_0''', p0_1''', p0_2''', p0_3''', p0_4''', p0_5''', p0_6''', p0_7''', p0_8''', p0_9''', p1_0''', p1_1''', p1_2''', p1_3''', p1_4''', p1_5''', p1_6''', p1_7''', p1_8''', p1_9'''⟩ | exact ⟨p0_0'''', p0_1'''', p0_2'''', p0_3'''', p0_4'''', p0_5'''', p0_6'''', p0_7'''', p0_8'''', p0_9'''', p1_0'''', p1_1'''', p1_2'''', p1_3'''', p1_4'''', p1_5'''', p1_6'''', p1_7'''', p1_8'''', p1_9''''⟩ | exact ⟨p0_0''''', p0_1''''', p0_2''''', p0_3''''', p0_4''''', p0_5''''', p0_6''''', p0_7''''', p0_8''''', p0_9''''', p1_0''''', p1_1''''', p1_2''''', p1_3''''', p1_4''''', p1_5''''', p1_6''''', p1_7''''', p1_8''''', p1_9'''''⟩) (first
        | (go_at_call_of 25 (Value.agg #[I (d0.kind), I (d0.src), I (d0.dst), .slice A0_3 d0.path.length cA0_3, I (d0.pidx), I (d0.hidx), I (d0.beta), I (d0.rid), I (d0.seq), .slice A0_9 d0.pay.length cA0_9]); refine (to_pkt d0 _ _ (pktT.kp h0 (x_2.drew)) sz0).mono ?_; rintro e w3 ⟨cq3, fq3, rfl, hQ3, hb3⟩; obtain ⟨B0_33, cB0_33, B0_93, cB0_93, fB0_33, fB0_93, rfl, _⟩ := pkt_oform hQ3; have p0_0''' := ck hb3 (show w2.drew.cell? ⟨w.heap.size, 0, none⟩ = _ from p0_0''); have p0_1''' := ck hb3 (show w2.drew.cell? ⟨w.heap.size, 1, none⟩ = _ from p0_1''); have p0_2''' := ck hb3 (show w2.drew.cell? ⟨w.heap.size, 2, none⟩ = _ from p0_2''); have p0_3''' := ck hb3 (show w2.drew.cell? ⟨w.heap.size, 3, none⟩ = _ from p0_3''); have p0_4''' := ck hb3 (show w2.drew.cell? ⟨w.heap.size, 4, none⟩ = _ from p0_4''); have p0_5''' := ck hb3 (show w2.drew.cell? ⟨w.heap.size, 5, none⟩ = _ from p0_5''); have p0_6''' := ck hb3 (show w2.drew.cell? ⟨w.heap.size, 6, none⟩ = _ from p0_6''); have p0_7''' := ck hb3 (show w2.drew.cell? ⟨w.heap.size, 7, none⟩ = _ from p0_7''); have p0_8''' := ck hb3 (show w2.drew.cell? ⟨w.heap.size, 8, none⟩ = _ from p0_8''); have p0_9''' := ck hb3 (show w2.drew.cell? ⟨w.heap.size, 9, none⟩ = _ from p0_9''); have p1_0''' := ck hb3 (show w2.drew.cell? ⟨w.heap.size + 1, 0, none⟩ = _ from p1_0''); have p1_1''' := ck hb3 (show w2.drew.cell? ⟨w.heap.size + 1, 1, none⟩ = _ from p1_1''); have p1_2''' := ck hb3 (show w2.drew.cell? ⟨w.heap.size + 1, 2, none⟩ = _ from p1_2''); have p1_3''' := ck hb3 (show w2.drew.cell? ⟨w.heap.size + 1, 3, none⟩ = _ from p1_3''); have p1_4''' := ck hb3 (show w2.drew.cell? ⟨w.heap.size + 1, 4, none⟩ = _ from p1_4''); have p1_5''' := ck hb3 (show w2.drew.cell? ⟨w.heap.size + 1, 5, none⟩ = _ from p1_5''); have p1_6''' := ck hb3 (show w2.drew.cell? ⟨w.heap.size + 1, 6, none⟩ = _ from p1_6''); have p1_7''' := ck hb3 (show w2.drew.cell? ⟨w.heap.size + 1, 7, none⟩ = _ from p1_7''); have p1_8''' := ck hb3 (show w2.drew.cell? ⟨w.heap.size + 1, 8, none⟩ = _ from p1_8''); have p1_9''' := ck hb3 (show w2.drew.cell? ⟨w.heap.size + 1, 9, none⟩ = _ from p1_9''); have x_3 := ext_trans x_2.drew hb3)
        | (go_at_call_of 25 (Value.agg #[I (d1.kind), I (d1.src), I (d1.dst), .slice A1_3 d1.path.length cA1_3, I (d1.pidx), I (d1.hidx), I (d1.beta), I (d1.rid), I (d1.seq), .slice A1_9 d1.pay.length cA1_9]); refine (to_pkt d1 _ _ (pktT.kp h1 (x_3)) sz1).mono ?_; rintro e w4 ⟨cq4, fq4, rfl, hQ4, hb4⟩; obtain ⟨B1_34, cB1_34, B1_94, cB1_94, fB1_34, fB1_94, rfl, _⟩ := pkt_oform hQ4; have p0_0'''' := ck hb4 p0_0'''; have p0_1'''' := ck hb4 p0_1'''; have p0_2'''' := ck hb4 p0_2'''; have p0_3'''' := ck hb4 p0_3'''; have p0_4'''' := ck hb4 p0_4'''; have p0_5'''' := ck hb4 p0_5'''; have p0_6'''' := ck hb4 p0_6'''; have p0_7'''' := ck hb4 p0_7'''; have p0_8'''' := ck hb4 p0_8'''; have p0_9'''' := ck hb4 p0_9'''; have p1_0'''' := ck hb4 p1_0'''; have p1_1'''' := ck hb4 p1_1'''; have p1_2'''' := ck hb4 p1_2'''; have p1_3'''' := ck hb4 p1_3'''; have p1_4'''' := ck hb4 p1_4'''; have p1_5'''' := ck hb4 p1_5'''; have p1_6'''' := ck hb4 p1_6'''; have p1_7'''' := ck hb4 p1_7'''; have p1_8'''' := ck hb4 p1_8'''; have p1_9'''' := ck hb4 p1_9'''; have x_4 := ext_trans x_3 hb4; have hQ3' := pktT.obelow hQ3 hb4)
        | (go_at_call 43; refine (spec_EqualPackets d0 _ d1 _ _ (pktT.rd hQ3') sz0 l0 G0.out (pktT.rd hQ4) sz1 l1 G1.out).mono ?_; rintro e w5 ⟨rfl, hb5⟩; have p0_0''''' := ck hb5 p0_0''''; have p0_1''''' := ck hb5 p0_1''''; have p0_2''''' := ck hb5 p0_2''''; have p0_3''''' := ck hb5 p0_3''''; have p0_4''''' := ck hb5 p0_4''''; have p0_5''''' := ck hb5 p0_5''''; have p0_6''''' := ck hb5 p0_6''''; have p0_7''''' := ck hb5 p0_7''''; have p0_8''''' := ck hb5 p0_8''''; have p0_9''''' := ck hb5 p0_9''''; have p1_0''''' := ck hb5 p1_0''''; have p1_1''''' := ck hb5 p1_1''''; have p1_2''''' := ck hb5 p1_2''''; have p1_3''''' := ck hb5 p1_3''''; have p1_4''''' := ck hb5 p1_4''''; have p1_5''''' := ck hb5 p1_5''''; have p1_6''''' := ck hb5 p1_6''''; have p1_7''''' := ck hb5 p1_7''''; have p1_8''''' := ck hb5 p1_8''''; have p1_9''''' := ck hb5 p1_9''''; have x_5 := ext_trans x_4 hb5; have hQ3'' := pktT.obelow hQ3' hb5; have hQ4' := pktT.obelow hQ4 hb5))
      go_wp2_with (fail)
      refine (to_pkt d0 _ _ (pktT.kp h0 (x_5)) sz0).mono ?_
      rintro e w6 ⟨cq6, fq6, rfl, hQ6, hb6⟩
      obtain ⟨B0_36, cB0_36, B0_96, cB0_96, fB0_36, fB0_96, rfl, _⟩ := pkt_oform hQ6
      have p0_0'''''' := ck hb6 p0_0'''''
      have p0_1'''''' := ck hb6 p0_1'''''
      have p0_2'''''' := ck hb6 p0_2'''''
      have p0_3'''''' := ck hb6 p0_3'''''
      have p0_4'''''' := ck hb6 p0_4'''''
      have p0_5'''''' := ck hb6 p0_5'''''
      have p0_6'''''' := ck hb6 p0_6'''''
      have p0_7'''''' := ck hb6 p0_7'''''
      have p0_8'''''' := ck hb6 p0_8'''''
      have p0_9'''''' := ck hb6 p0_9'''''
      have p1_0'''''' := ck hb6 p1_0'''''
      have p1_1'''''' := ck hb6 p1_1'''''
      have p1_2'''''' := ck hb6 p1_2'''''
      have p1_3'''''' := ck hb6 p1_3'''''
      have p1_4'''''' := ck hb6 p1_4'''''
      have p1_5'''''' := ck hb6 p1_5'''''
      have p1_6'''''' := ck hb6 p1_6'''''
      have p1_7'''''' := ck hb6 p1_7'''''
      have p1_8'''''' := ck hb6 p1_8'''''
      have p1_9'''''' := ck hb6 p1_9'''''
      have x_6 := ext_trans x_5 hb6
      clear p0_0''''' p0_1''''' p0_2''''' p0_3''''' p0_4''''' p0_5''''' p0_6''''' p0_7''''' p0_8''''' p0_9''''' p1_0''''' p1_1''''' p1_2''''' p1_3''''' p1_4''''' p1_5''''' p1_6''''' p1_7''''' p1_8''''' p1_9'''''
      have p0_0''''''' : (w6.alloc (.cells #[I (d0.kind), I (d0.src), I (d0.dst), .slice B0_36 d0.path.length cB0_36, I (d0.pidx), I (d0.hidx), I (d0.beta), I (d0.rid), I (d0.seq), .slice B0_96 d0.pay.length cB0_96] 44)).cell? ⟨w.heap.size, 0, none⟩ = some (I (d0.kind)) := ck (ext_alloc1 _ _) p0_0''''''
      have p0_1''''''' : (w6.alloc (.cells #[I (d0.kind), I (d0.src), I (d0.dst), .slice B0_36 d0.path.length cB0_36, I (d0.pidx), I (d0.hidx), I (d0.beta), I (d0.rid), I (d0.seq), .slice B0_96 d0.pay.length cB0_96] 44)).cell? ⟨w.heap.size, 1, none⟩ = some (I (d0.src)) := ck (ext_alloc1 _ _) p0_1''''''
      have p0_2''''''' : (w6.alloc (.cells #[I (d0.kind), I (d0.src), I (d0.dst), .slice B0_36 d0.path.length cB0_36, I (d0.pidx), I (d0.hidx), I (d0.beta), I (d0.rid), I (d0.seq), .slice B0_96 d0.pay.length cB0_96] 44)).cell? ⟨w.heap.size, 2, none⟩ = some (I (d0.dst)) := ck (ext_alloc1 _ _) p0_2''''''
      have p0_3''''''' : (w6.alloc (.cells #[I (d0.kind), I (d0.src), I (d0.dst), .slice B0_36 d0.path.length cB0_36, I (d0.pidx), I (d0.hidx), I (d0.beta), I (d0.rid), I (d0.seq), .slice B0_96 d0.pay.length cB0_96] 44)).cell? ⟨w.heap.size, 3, none⟩ = some (.slice A0_3 d0.path.length cA0_3) := ck (ext_alloc1 _ _) p0_3''''''
      have p0_4''''''' : (w6.alloc (.cells #[I (d0.kind), I (d0.src), I (d0.dst), .slice B0_36 d0.path.length cB0_36, I (d0.pidx), I (d0.hidx), I (d0.beta), I (d0.rid), I (d0.seq), .slice B0_96 d0.pay.length cB0_96] 44)).cell? ⟨w.heap.size, 4, none⟩ = some (I (d0.pidx)) := ck (ext_alloc1 _ _) p0_4''''''
      have p0_5''''''' : (w6.alloc (.cells #[I (d0.kind), I (d0.src), I (d0.dst), .slice B0_36 d0.path.length cB0_36, I (d0.pidx), I (d0.hidx), I (d0.beta), I (d0.rid), I (d0.seq), .slice B0_96 d0.pay.length cB0_96] 44)).cell? ⟨w.heap.size, 5, none⟩ = some (I (d0.hidx)) := ck (ext_alloc1 _ _) p0_5''''''
      have p0_6''''''' : (w6.alloc (.cells #[I (d0.kind), I (d0.src), I (d0.dst), .slice B0_36 d0.path.length cB0_36, I (d0.pidx), I (d0.hidx), I (d0.beta), I (d0.rid), I (d0.seq), .slice B0_96 d0.pay.length cB0_96] 44)).cell? ⟨w.heap.size, 6, none⟩ = some (I (d0.beta)) := ck (ext_alloc1 _ _) p0_6''''''
      have p0_7''''''' : (w6.alloc (.cells #[I (d0.kind), I (d0.src), I (d0.dst), .slice B0_36 d0.path.length cB0_36, I (d0.pidx), I (d0.hidx), I (d0.beta), I (d0.rid), I (d0.seq), .slice B0_96 d0.pay.length cB0_96] 44)).cell? ⟨w.heap.size, 7, none⟩ = some (I (d0.rid)) := ck (ext_alloc1 _ _) p0_7''''''
      have p0_8''''''' : (w6.alloc (.cells #[I (d0.kind), I (d0.src), I (d0.dst), .slice B0_36 d0.path.length cB0_36, I (d0.pidx), I (d0.hidx), I (d0.beta), I (d0.rid), I (d0.seq), .slice B0_96 d0.pay.length cB0_96] 44)).cell? ⟨w.heap.size, 8, none⟩ = some (I (d0.seq)) := ck (ext_alloc1 _ _) p0_8''''''
      have p0_9''''''' : (w6.alloc (.cells #[I (d0.kind), I (d0.src), I (d0.dst), .slice B0_36 d0.path.length cB0_36, I (d0.pidx), I (d0.hidx), I (d0.beta), I (d0.rid), I (d0.seq), .slice B0_96 d0.pay.length cB0_96] 44)).cell? ⟨w.heap.size, 9, none⟩ = some (.slice A0_9 d0.pay.length cA0_9) := ck (ext_alloc1 _ _) p0_9''''''
      have p1_0''''''' : (w6.alloc (.cells #[I (d0.kind), I (d0.src), I (d0.dst), .slice B0_36 d0.path.length cB0_36, I (d0.pidx), I (d0.hidx), I (d0.beta), I (d0.rid), I (d0.seq), .slice B0_96 d0.pay.length cB0_96] 44)).cell? ⟨w.heap.size + 1, 0, none⟩ = some (I (d1.kind)) := ck (ext_alloc1 _ _) p1_0''''''
      have p1_1''''''' : (w6.alloc (.cells #[I (d0.kind), I (d0.src), I (d0.dst), .slice B0_36 d0.path.length cB0_36, I (d0.pidx), I (d0.hidx), I (d0.beta), I (d0.rid), I (d0.seq), .slice B0_96 d0.pay.length cB0_96] 44)).cell? ⟨w.heap.size + 1, 1, none⟩ = some (I (d1.src)) := ck (ext_alloc1 _ _) p1_1''''''
      have p1_2''''''' : (w6.alloc (.cells #[I (d0.kind), I (d0.src), I (d0.dst), .slice B0_36 d0.path.length cB0_36, I (d0.pidx), I (d0.hidx), I (d0.beta), I (d0.rid), I (d0.seq), .slice B0_96 d0.pay.length cB0_96] 44)).cell? ⟨w.heap.size + 1, 2, none⟩ = some (I (d1.dst)) := ck (ext_alloc1 _ _) p1_2''''''
      have p1_3''''''' : (w6.alloc (.cells #[I (d0.kind), I (d0.src), I (d0.dst), .slice B0_36 d0.path.length cB0_36, I (d0.pidx), I (d0.hidx), I (d0.beta), I (d0.rid), I (d0.seq), .slice B0_96 d0.pay.length cB0_96] 44)).cell? ⟨w.heap.size + 1, 3, none⟩ = some (.slice A1_3 d1.path.length cA1_3) := ck (ext_alloc1 _ _) p1_3''''''
      have p1_4''''''' : (w6.alloc (.cells #[I (d0.kind), I (d0.src), I (d0.dst), .slice B0_36 d0.path.length cB0_36, I (d0.pidx), I (d0.hidx), I (d0.beta), I (d0.rid), I (d0.seq), .slice B0_96 d0.pay.length cB0_96] 44)).cell? ⟨w.heap.size + 1, 4, none⟩ = some (I (d1.pidx)) := ck (ext_alloc1 _ _) p1_4''''''
      have p1_5''''''' : (w6.alloc (.cells #[I (d0.kind), I (d0.src), I (d0.dst), .slice B0_36 d0.path.length cB0_36, I (d0.pidx), I (d0.hidx), I (d0.beta), I (d0.rid), I (d0.seq), .slice B0_96 d0.pay.length cB0_96] 44)).cell? ⟨w.heap.size + 1, 5, none⟩ = some (I (d1.hidx)) := ck (ext_alloc1 _ _) p1_5''''''
      have p1_6''''''' : (w6.alloc (.cells #[I (d0.kind), I (d0.src), I (d0.dst), .slice B0_36 d0.path.length cB0_36, I (d0.pidx), I (d0.hidx), I (d0.beta), I (d0.rid), I (d0.seq), .slice B0_96 d0.pay.length cB0_96] 44)).cell? ⟨w.heap.size + 1, 6, none⟩ = some (I (d1.beta)) := ck (ext_alloc1 _ _) p1_6''''''
      have p1_7''''''' : (w6.alloc (.cells #[I (d0.kind), I (d0.src), I (d0.dst), .slice B0_36 d0.path.length cB0_36, I (d0.pidx), I (d0.hidx), I (d0.beta), I (d0.rid), I (d0.seq), .slice B0_96 d0.pay.length cB0_96] 44)).cell? ⟨w.heap.size + 1, 7, none⟩ = some (I (d1.rid)) := ck (ext_alloc1 _ _) p1_7''''''
      have p1_8''''''' : (w6.alloc (.cells #[I (d0.kind), I (d0.src), I (d0.dst), .slice B0_36 d0.path.length cB0_36, I (d0.pidx), I (d0.hidx), I (d0.beta), I (d0.rid), I (d0.seq), .slice B0_96 d0.pay.length cB0_96] 44)).cell? ⟨w.heap.size + 1, 8, none⟩ = some (I (d1.seq)) := ck (ext_alloc1 _ _) p1_8''''''
      have p1_9''''''' : (w6.alloc (.cells #[I (d0.kind), I (d0.src), I (d0.dst), .slice B0_36 d0.path.length cB0_36, I (d0.pidx), I (d0.hidx), I (d0.beta), I (d0.rid), I (d0.seq), .slice B0_96 d0.pay.length cB0_96] 44)).cell? ⟨w.heap.size + 1, 9, none⟩ = some (.slice A1_9 d1.pay.length cA1_9) := ck (ext_alloc1 _ _) p1_9''''''
      have hQ6' : pktT.O _ (w6.alloc (.cells #[I (d0.kind), I (d0.src), I (d0.dst), .slice B0_36 d0.path.length cB0_36, I (d0.pidx), I (d0.hidx), I (d0.beta), I (d0.rid), I (d0.seq), .slice B0_96 d0.pay.length cB0_96] 44)) _ _ _ := pktT.obelow hQ6 (ext_alloc1 _ _)
      clear p0_0'''''' p0_1'''''' p0_2'''''' p0_3'''''' p0_4'''''' p0_5'''''' p0_6'''''' p0_7'''''' p0_8'''''' p0_9'''''' p1_0'''''' p1_1'''''' p1_2'''''' p1_3'''''' p1_4'''''' p1_5'''''' p1_6'''''' p1_7'''''' p1_8'''''' p1_9'''''' hQ6
      have x_6' : Below w.heap.size w (w6.alloc (.cells #[I (d0.kind), I (d0.src), I (d0.dst), .slice B0_36 d0.path.length cB0_36, I (d0.pidx), I (d0.hidx), I (d0.beta), I (d0.rid), I (d0.seq), .slice B0_96 d0.pay.length cB0_96] 44)) := ext_alloc x_6 _
      have q0_0 : (w6.alloc (.cells #[I (d0.kind), I (d0.src), I (d0.dst), .slice B0_36 d0.path.length cB0_36, I (d0.pidx), I (d0.hidx), I (d0.beta), I (d0.rid), I (d0.seq), .slice B0_96 d0.pay.length cB0_96] 44)).cell? ⟨w6.heap.size, 0, none⟩ = some (I (d0.kind)) := by simp
      have q0_1 : (w6.alloc (.cells #[I (d0.kind), I (d0.src), I (d0.dst), .slice B0_36 d0.path.length cB0_36, I (d0.pidx), I (d0.hidx), I (d0.beta), I (d0.rid), I (d0.seq), .slice B0_96 d0.pay.length cB0_96] 44)).cell? ⟨w6.heap.size, 1, none⟩ = some (I (d0.src)) := by simp
      have q0_2 : (w6.alloc (.cells #[I (d0.kind), I (d0.src), I (d0.dst), .slice B0_36 d0.path.length cB0_36, I (d0.pidx), I (d0.hidx), I (d0.beta), I (d0.rid), I (d0.seq), .slice B0_96 d0.pay.length cB0_96] 44)).cell? ⟨w6.heap.size, 2, none⟩ = some (I (d0.dst)) := by simp
      have q0_3 : (w6.alloc (.cells #[I (d0.kind), I (d0.src), I (d0.dst), .slice B0_36 d0.path.length cB0_36, I (d0.pidx), I (d0.hidx), I (d0.beta), I (d0.rid), I (d0.seq), .slice B0_96 d0.pay.length cB0_96] 44)).cell? ⟨w6.heap.size, 3, none⟩ = some (.slice B0_36 d0.path.length cB0_36) := by simp
      have q0_4 : (w6.alloc (.cells #[I (d0.kind), I (d0.src), I (d0.dst), .slice B0_36 d0.path.length cB0_36, I (d0.pidx), I (d0.hidx), I (d0.beta), I (d0.rid), I (d0.seq), .slice B0_96 d0.pay.length cB0_96] 44)).cell? ⟨w6.heap.size, 4, none⟩ = some (I (d0.pidx)) := by simp
      have q0_5 : (w6.alloc (.cells #[I (d0.kind), I (d0.src), I (d0.dst), .slice B0_36 d0.path.length cB0_36, I (d0.pidx), I (d0.hidx), I (d0.beta), I (d0.rid), I (d0.seq), .slice B0_96 d0.pay.length cB0_96] 44)).cell? ⟨w6.heap.size, 5, none⟩ = some (I (d0.hidx)) := by simp
      have q0_6 : (w6.alloc (.cells #[I (d0.kind), I (d0.src), I (d0.dst), .slice B0_36 d0.path.length cB0_36, I (d0.pidx), I (d0.hidx), I (d0.beta), I (d0.rid), I (d0.seq), .slice B0_96 d0.pay.length cB0_96] 44)).cell? ⟨w6.heap.size, 6, none⟩ = some (I (d0.beta)) := by simp
      have q0_7 : (w6.alloc (.cells #[I (d0.kind), I (d0.src), I (d0.dst), .slice B0_36 d0.path.length cB0_36, I (d0.pidx), I (d0.hidx), I (d0.beta), I (d0.rid), I (d0.seq), .slice B0_96 d0.pay.length cB0_96] 44)).cell? ⟨w6.heap.size, 7, none⟩ = some (I (d0.rid)) := by simp
      have q0_8 : (w6.alloc (.cells #[I (d0.kind), I (d0.src), I (d0.dst), .slice B0_36 d0.path.length cB0_36, I (d0.pidx), I (d0.hidx), I (d0.beta), I (d0.rid), I (d0.seq), .slice B0_96 d0.pay.length cB0_96] 44)).cell? ⟨w6.heap.size, 8, none⟩ = some (I (d0.seq)) := by simp
      have q0_9 : (w6.alloc (.cells #[I (d0.kind), I (d0.src), I (d0.dst), .slice B0_36 d0.path.length cB0_36, I (d0.pidx), I (d0.hidx), I (d0.beta), I (d0.rid), I (d0.seq), .slice B0_96 d0.pay.length cB0_96] 44)).cell? ⟨w6.heap.size, 9, none⟩ = some (.slice B0_96 d0.pay.length cB0_96) := by simp
      go_wp2_with (fail)
      refine (to_pkt d1 _ _ (pktT.kp h1 (x_6')) sz1).mono ?_
      rintro e w7 ⟨cq7, fq7, rfl, hQ7, hb7⟩
      obtain ⟨B1_37, cB1_37, B1_97, cB1_97, fB1_37, fB1_97, rfl, _⟩ := pkt_oform hQ7
      have p0_0'''''''' := ck hb7 p0_0'''''''
      have p0_1'''''''' := ck hb7 p0_1'''''''
      have p0_2'''''''' := ck hb7 p0_2'''''''
      have p0_3'''''''' := ck hb7 p0_3'''''''
      have p0_4'''''''' := ck hb7 p0_4'''''''
      have p0_5'''''''' := ck hb7 p0_5'''''''
      have p0_6'''''''' := ck hb7 p0_6'''''''
      have p0_7'''''''' := ck hb7 p0_7'''''''
      have p0_8'''''''' := ck hb7 p0_8'''''''
      have p0_9'''''''' := ck hb7 p0_9'''''''
      have p1_0'''''''' := ck hb7 p1_0'''''''
      have p1_1'''''''' := ck hb7 p1_1'''''''
      have p1_2'''''''' := ck hb7 p1_2'''''''
      have p1_3'''''''' := ck hb7 p1_3'''''''
      have p1_4'''''''' := ck hb7 p1_4'''''''
      have p1_5'''''''' := ck hb7 p1_5'''''''
      have p1_6'''''''' := ck hb7 p1_6'''''''
      have p1_7'''''''' := ck hb7 p1_7'''''''
      have p1_8'''''''' := ck hb7 p1_8'''''''
      have p1_9'''''''' := ck hb7 p1_9'''''''
      have q0_0' := ck hb7 q0_0
      have q0_1' := ck hb7 q0_1
      have q0_2' := ck hb7 q0_2
      have q0_3' := ck hb7 q0_3
      have q0_4' := ck hb7 q0_4
      have q0_5' := ck hb7 q0_5
      have q0_6' := ck hb7 q0_6
      have q0_7' := ck hb7 q0_7
      have q0_8' := ck hb7 q0_8
      have q0_9' := ck hb7 q0_9
      have x_7 := ext_trans x_6' hb7
      have hQ6'' := pktT.obelow hQ6' hb7
      clear p0_0''''''' p0_1''''''' p0_2''''''' p0_3''''''' p0_4''''''' p0_5''''''' p0_6''''''' p0_7''''''' p0_8''''''' p0_9''''''' p1_0''''''' p1_1''''''' p1_2''''''' p1_3''''''' p1_4''''''' p1_5''''''' p1_6''''''' p1_7''''''' p1_8''''''' p1_9''''''' q0_0 q0_1 q0_2 q0_3 q0_4 q0_5 q0_6 q0_7 q0_8 q0_9 hQ6'
      have p0_0''''''''' : (w7.alloc (.cells #[I (d1.kind), I (d1.src), I (d1.dst), .slice B1_37 d1.path.length cB1_37, I (d1.pidx), I (d1.hidx), I (d1.beta), I (d1.rid), I (d1.seq), .slice B1_97 d1.pay.length cB1_97] 44)).cell? ⟨w.heap.size, 0, none⟩ = some (I (d0.kind)) := ck (ext_alloc1 _ _) p0_0''''''''
      have p0_1''''''''' : (w7.alloc (.cells #[I (d1.kind), I (d1.src), I (d1.dst), .slice B1_37 d1.path.length cB1_37, I (d1.pidx), I (d1.hidx), I (d1.beta), I (d1.rid), I (d1.seq), .slice B1_97 d1.pay.length cB1_97] 44)).cell? ⟨w.heap.size, 1, none⟩ = some (I (d0.src)) := ck (ext_alloc1 _ _) p0_1''''''''
      have p0_2''''''''' : (w7.alloc (.cells #[I (d1.kind), I (d1.src), I (d1.dst), .slice B1_37 d1.path.length cB1_37, I (d1.pidx), I (d1.hidx), I (d1.beta), I (d1.rid), I (d1.seq), .slice B1_97 d1.pay.length cB1_97] 44)).cell? ⟨w.heap.size, 2, none⟩ = some (I (d0.dst)) := ck (ext_alloc1 _ _) p0_2''''''''
      have p0_3''''''''' : (w7.alloc (.cells #[I (d1.kind), I (d1.src), I (d1.dst), .slice B1_37 d1.path.length cB1_37, I (d1.pidx), I (d1.hidx), I (d1.beta), I (d1.rid), I (d1.seq), .slice B1_97 d1.pay.length cB1_97] 44)).cell? ⟨w.heap.size, 3, none⟩ = some (.slice A0_3 d0.path.length cA0_3) := ck (ext_alloc1 _ _) p0_3''''''''
      have p0_4''''''''' : (w7.alloc (.cells #[I (d1.kind), I (d1.src), I (d1.dst), .slice B1_37 d1.path.length cB1_37, I (d1.pidx), I (d1.hidx), I (d1.beta), I (d1.rid), I (d1.seq), .slice B1_97 d1.pay.length cB1_97] 44)).cell? ⟨w.heap.size, 4, none⟩ = some (I (d0.pidx)) := ck (ext_alloc1 _ _) p0_4''''''''
      have p0_5''''''''' : (w7.alloc (.cells #[I (d1.kind), I (d1.src), I (d1.dst), .slice B1_37 d1.path.length cB1_37, I (d1.pidx), I (d1.hidx), I (d1.beta), I (d1.rid), I (d1.seq), .slice B1_97 d1.pay.length cB1_97] 44)).cell? ⟨w.heap.size, 5, none⟩ = some (I (d0.hidx)) := ck (ext_alloc1 _ _) p0_5''''''''
      have p0_6''''''''' : (w7.alloc (.cells #[I (d1.kind), I (d1.src), I (d1.dst), .slice B1_37 d1.path.length cB1_37, I (d1.pidx), I (d1.hidx), I (d1.beta), I (d1.rid), I (d1.seq), .slice B1_97 d1.pay.length cB1_97] 44)).cell? ⟨w.heap.size, 6, none⟩ = some (I (d0.beta)) := ck (ext_alloc1 _ _) p0_6''''''''
      have p0_7''''''''' : (w7.alloc (.cells #[I (d1.kind), I (d1.src), I (d1.dst), .slice B1_37 d1.path.length cB1_37, I (d1.pidx), I (d1.hidx), I (d1.beta), I (d1.rid), I (d1.seq), .slice B1_97 d1.pay.length cB1_97] 44)).cell? ⟨w.heap.size, 7, none⟩ = some (I (d0.rid)) := ck (ext_alloc1 _ _) p0_7''''''''
      have p0_8''''''''' : (w7.alloc (.cells #[I (d1.kind), I (d1.src), I (d1.dst), .slice B1_37 d1.path.length cB1_37, I (d1.pidx), I (d1.hidx), I (d1.beta), I (d1.rid), I (d1.seq), .slice B1_97 d1.pay.length cB1_97] 44)).cell? ⟨w.heap.size, 8, none⟩ = some (I (d0.seq)) := ck (ext_alloc1 _ _) p0_8''''''''
      have p0_9''''''''' : (w7.alloc (.cells #[I (d1.kind), I (d1.src), I (d1.dst), .slice B1_37 d1.path.length cB1_37, I (d1.pidx), I (d1.hidx), I (d1.beta), I (d1.rid), I (d1.seq), .slice B1_97 d1.pay.length cB1_97] 44)).cell? ⟨w.heap.size, 9, none⟩ = some (.slice A0_9 d0.pay.length cA0_9) := ck (ext_alloc1 _ _) p0_9''''''''
      have p1_0''''''''' : (w7.alloc (.cells #[I (d1.kind), I (d1.src), I (d1.dst), .slice B1_37 d1.path.length cB1_37, I (d1.pidx), I (d1.hidx), I (d1.beta), I (d1.rid), I (d1.seq), .slice B1_97 d1.pay.length cB1_97] 44)).cell? ⟨w.heap.size + 1, 0, none⟩ = some (I (d1.kind)) := ck (ext_alloc1 _ _) p1_0''''''''
      have p1_1''''''''' : (w7.alloc (.cells #[I (d1.kind), I (d1.src), I (d1.dst), .slice B1_37 d1.path.length cB1_37, I (d1.pidx), I (d1.hidx), I (d1.beta), I (d1.rid), I (d1.seq), .slice B1_97 d1.pay.length cB1_97] 44)).cell? ⟨w.heap.size + 1, 1, none⟩ = some (I (d1.src)) := ck (ext_alloc1 _ _) p1_1''''''''
      have p1_2''''''''' : (w7.alloc (.cells #[I (d1.kind), I (d1.src), I (d1.dst), .slice B1_37 d1.path.length cB1_37, I (d1.pidx), I (d1.hidx), I (d1.beta), I (d1.rid), I (d1.seq), .slice B1_97 d1.pay.length cB1_97] 44)).cell? ⟨w.heap.size + 1, 2, none⟩ = some (I (d1.dst)) := ck (ext_alloc1 _ _) p1_2''''''''
      have p1_3''''''''' : (w7.alloc (.cells #[I (d1.kind), I (d1.src), I (d1.dst), .slice B1_37 d1.path.length cB1_37, I (d1.pidx), I (d1.hidx), I (d1.beta), I (d1.rid), I (d1.seq), .slice B1_97 d1.pay.length cB1_97] 44)).cell? ⟨w.heap.size + 1, 3, none⟩ = some (.slice A1_3 d1.path.length cA1_3) := ck (ext_alloc1 _ _) p1_3''''''''
      have p1_4''''''''' : (w7.alloc (.cells #[I (d1.kind), I (d1.src), I (d1.dst), .slice B1_37 d1.path.length cB1_37, I (d1.pidx), I (d1.hidx), I (d1.beta), I (d1.rid), I (d1.seq), .slice B1_97 d1.pay.length cB1_97] 44)).cell? ⟨w.heap.size + 1, 4, none⟩ = some (I (d1.pidx)) := ck (ext_alloc1 _ _) p1_4''''''''
      have p1_5''''''''' : (w7.alloc (.cells #[I (d1.kind), I (d1.src), I (d1.dst), .slice B1_37 d1.path.length cB1_37, I (d1.pidx), I (d1.hidx), I (d1.beta), I (d1.rid), I (d1.seq), .slice B1_97 d1.pay.length cB1_97] 44)).cell? ⟨w.heap.size + 1, 5, none⟩ = some (I (d1.hidx)) := ck (ext_alloc1 _ _) p1_5''''''''
      have p1_6''''''''' : (w7.alloc (.cells #[I (d1.kind), I (d1.src), I (d1.dst), .slice B1_37 d1.path.length cB1_37, I (d1.pidx), I (d1.hidx), I (d1.beta), I (d1.rid), I (d1.seq), .slice B1_97 d1.pay.length cB1_97] 44)).cell? ⟨w.heap.size + 1, 6, none⟩ = some (I (d1.beta)) := ck (ext_alloc1 _ _) p1_6''''''''
      have p1_7''''''''' : (w7.alloc (.cells #[I (d1.kind), I (d1.src), I (d1.dst), .slice B1_37 d1.path.length cB1_37, I (d1.pidx), I (d1.hidx), I (d1.beta), I (d1.rid), I (d1.seq), .slice B1_97 d1.pay.length cB1_97] 44)).cell? ⟨w.heap.size + 1, 7, none⟩ = some (I (d1.rid)) := ck (ext_alloc1 _ _) p1_7''''''''
      have p1_8''''''''' : (w7.alloc (.cells #[I (d1.kind), I (d1.src), I (d1.dst), .slice B1_37 d1.path.length cB1_37, I (d1.pidx), I (d1.hidx), I (d1.beta), I (d1.rid), I (d1.seq), .slice B1_97 d1.pay.length cB1_97] 44)).cell? ⟨w.heap.size + 1, 8, none⟩ = some (I (d1.seq)) := ck (ext_alloc1 _ _) p1_8''''''''
      have p1_9''''''''' : (w7.alloc (.cells #[I (d1.kind), I (d1.src), I (d1.dst), .slice B1_37 d1.path.length cB1_37, I (d1.pidx), I (d1.hidx), I (d1.beta), I (d1.rid), I (d1.seq), .slice B1_97 d1.pay.length cB1_97] 44)).cell? ⟨w.heap.size + 1, 9, none⟩ = some (.slice A1_9 d1.pay.length cA1_9) := ck (ext_alloc1 _ _) p1_9''''''''
      have q0_0'' : (w7.alloc (.cells #[I (d1.kind), I (d1.src), I (d1.dst), .slice B1_37 d1.path.length cB1_37, I (d1.pidx), I (d1.hidx), I (d1.beta), I (d1.rid), I (d1.seq), .slice B1_97 d1.pay.length cB1_97] 44)).cell? ⟨w6.heap.size, 0, none⟩ = some (I (d0.kind)) := ck (ext_alloc1 _ _) q0_0'
      have q0_1'' : (w7.alloc (.cells #[I (d1.kind), I (d1.src), I (d1.dst), .slice B1_37 d1.path.length cB1_37, I (d1.pidx), I (d1.hidx), I (d1.beta), I (d1.rid), I (d1.seq), .slice B1_97 d1.pay.length cB1_97] 44)).cell? ⟨w6.heap.size, 1, none⟩ = some (I (d0.src)) := ck (ext_alloc1 _ _) q0_1'
      have q0_2'' : (w7.alloc (.cells #[I (d1.kind), I (d1.src), I (d1.dst), .slice B1_37 d1.path.length cB1_37, I (d1.pidx), I (d1.hidx), I (d1.beta), I (d1.rid), I (d1.seq), .slice B1_97 d1.pay.length cB1_97] 44)).cell? ⟨w6.heap.size, 2, none⟩ = some (I (d0.dst)) := ck (ext_alloc1 _ _) q0_2'
      have q0_3'' : (w7.alloc (.cells #[I (d1.kind), I (d1.src), I (d1.dst), .slice B1_37 d1.path.length cB1_37, I (d1.pidx), I (d1.hidx), I (d1.beta), I (d1.rid), I (d1.seq), .slice B1_97 d1.pay.length cB1_97] 44)).cell? ⟨w6.heap.size, 3, none⟩ = some (.slice B0_36 d0.path.length cB0_36) := ck (ext_alloc1 _ _) q0_3'
      have q0_4'' : (w7.alloc (.cells #[I (d1.kind), I (d1.src), I (d1.dst), .slice B1_37 d1.path.length cB1_37, I (d1.pidx), I (d1.hidx), I (d1.beta), I (d1.rid), I (d1.seq), .slice B1_97 d1.pay.length cB1_97] 44)).cell? ⟨w6.heap.size, 4, none⟩ = some (I (d0.pidx)) := ck (ext_alloc1 _ _) q0_4'
      have q0_5'' : (w7.alloc (.cells #[I (d1.kind), I (d1.src), I (d1.dst), .slice B1_37 d1.path.length cB1_37, I (d1.pidx), I (d1.hidx), I (d1.beta), I (d1.rid), I (d1.seq), .slice B1_97 d1.pay.length cB1_97] 44)).cell? ⟨w6.heap.size, 5, none⟩ = some (I (d0.hidx)) := ck (ext_alloc1 _ _) q0_5'
      have q0_6'' : (w7.alloc (.cells #[I (d1.kind), I (d1.src), I (d1.dst), .slice B1_37 d1.path.length cB1_37, I (d1.pidx), I (d1.hidx), I (d1.beta), I (d1.rid), I (d1.seq), .slice B1_97 d1.pay.length cB1_97] 44)).cell? ⟨w6.heap.size, 6, none⟩ = some (I (d0.beta)) := ck (ext_alloc1 _ _) q0_6'
      have q0_7'' : (w7.alloc (.cells #[I (d1.kind), I (d1.src), I (d1.dst), .slice B1_37 d1.path.length cB1_37, I (d1.pidx), I (d1.hidx), I (d1.beta), I (d1.rid), I (d1.seq), .slice B1_97 d1.pay.length cB1_97] 44)).cell? ⟨w6.heap.size, 7, none⟩ = some (I (d0.rid)) := ck (ext_alloc1 _ _) q0_7'
      have q0_8'' : (w7.alloc (.cells #[I (d1.kind), I (d1.src), I (d1.dst), .slice B1_37 d1.path.length cB1_37, I (d1.pidx), I (d1.hidx), I (d1.beta), I (d1.rid), I (d1.seq), .slice B1_97 d1.pay.length cB1_97] 44)).cell? ⟨w6.heap.size, 8, none⟩ = some (I (d0.seq)) := ck (ext_alloc1 _ _) q0_8'
      have q0_9'' : (w7.alloc (.cells #[I (d1.kind), I (d1.src), I (d1.dst), .slice B1_37 d1.path.length cB1_37, I (d1.pidx), I (d1.hidx), I (d1.beta), I (d1.rid), I (d1.seq), .slice B1_97 d1.pay.length cB1_97] 44)).cell? ⟨w6.heap.size, 9, none⟩ = some (.slice B0_96 d0.pay.length cB0_96) := ck (ext_alloc1 _ _) q0_9'
      have hQ6''' : pktT.O _ (w7.alloc (.cells #[I (d1.kind), I (d1.src), I (d1.dst), .slice B1_37 d1.path.length cB1_37, I (d1.pidx), I (d1.hidx), I (d1.beta), I (d1.rid), I (d1.seq), .slice B1_97 d1.pay.length cB1_97] 44)) _ _ _ := pktT.obelow hQ6'' (ext_alloc1 _ _)
      have hQ7' : pktT.O _ (w7.alloc (.cells #[I (d1.kind), I (d1.src), I (d1.dst), .slice B1_37 d1.path.length cB1_37, I (d1.pidx), I (d1.hidx), I (d1.beta), I (d1.rid), I (d1.seq), .slice B1_97 d1.pay.length cB1_97] 44)) _ _ _ := pktT.obelow hQ7 (ext_alloc1 _ _)
      clear p0_0'''''''' p0_1'''''''' p0_2'''''''' p0_3'''''''' p0_4'''''''' p0_5'''''''' p0_6'''''''' p0_7'''''''' p0_8'''''''' p0_9'''''''' p1_0'''''''' p1_1'''''''' p1_2'''''''' p1_3'''''''' p1_4'''''''' p1_5'''''''' p1_6'''''''' p1_7'''''''' p1_8'''''''' p1_9'''''''' q0_0' q0_1' q0_2' q0_3' q0_4' q0_5' q0_6' q0_7' q0_8' q0_9' hQ6'' hQ7
      have x_7' : Below w.heap.size w (w7.alloc (.cells #[I (d1.kind), I (d1.src), I (d1.dst), .slice B1_37 d1.path.length cB1_37, I (d1.pidx), I (d1.hidx), I (d1.beta), I (d1.rid), I (d1.seq), .slice B1_97 d1.pay.length cB1_97] 44)) := ext_alloc x_7 _
      have q1_0 : (w7.alloc (.cells #[I (d1.kind), I (d1.src), I (d1.dst), .slice B1_37 d1.path.length cB1_37, I (d1.pidx), I (d1.hidx), I (d1.beta), I (d1.rid), I (d1.seq), .slice B1_97 d1.pay.length cB1_97] 44)).cell? ⟨w7.heap.size, 0, none⟩ = some (I (d1.kind)) := by simp
      have q1_1 : (w7.alloc (.cells #[I (d1.kind), I (d1.src), I (d1.dst), .slice B1_37 d1.path.length cB1_37, I (d1.pidx), I (d1.hidx), I (d1.beta), I (d1.rid), I (d1.seq), .slice B1_97 d1.pay.length cB1_97] 44)).cell? ⟨w7.heap.size, 1, none⟩ = some (I (d1.src)) := by simp
      have q1_2 : (w7.alloc (.cells #[I (d1.kind), I (d1.src), I (d1.dst), .slice B1_37 d1.path.length cB1_37, I (d1.pidx), I (d1.hidx), I (d1.beta), I (d1.rid), I (d1.seq), .slice B1_97 d1.pay.length cB1_97] 44)).cell? ⟨w7.heap.size, 2, none⟩ = some (I (d1.dst)) := by simp
      have q1_3 : (w7.alloc (.cells #[I (d1.kind), I (d1.src), I (d1.dst), .slice B1_37 d1.path.length cB1_37, I (d1.pidx), I (d1.hidx), I (d1.beta), I (d1.rid), I (d1.seq), .slice B1_97 d1.pay.length cB1_97] 44)).cell? ⟨w7.heap.size, 3, none⟩ = some (.slice B1_37 d1.path.length cB1_37) := by simp
      have q1_4 : (w7.alloc (.cells #[I (d1.kind), I (d1.src), I (d1.dst), .slice B1_37 d1.path.length cB1_37, I (d1.pidx), I (d1.hidx), I (d1.beta), I (d1.rid), I (d1.seq), .slice B1_97 d1.pay.length cB1_97] 44)).cell? ⟨w7.heap.size, 4, none⟩ = some (I (d1.pidx)) := by simp
      have q1_5 : (w7.alloc (.cells #[I (d1.kind), I (d1.src), I (d1.dst), .slice B1_37 d1.path.length cB1_37, I (d1.pidx), I (d1.hidx), I (d1.beta), I (d1.rid), I (d1.seq), .slice B1_97 d1.pay.length cB1_97] 44)).cell? ⟨w7.heap.size, 5, none⟩ = some (I (d1.hidx)) := by simp
      have q1_6 : (w7.alloc (.cells #[I (d1.kind), I (d1.src), I (d1.dst), .slice B1_37 d1.path.length cB1_37, I (d1.pidx), I (d1.hidx), I (d1.beta), I (d1.rid), I (d1.seq), .slice B1_97 d1.pay.length cB1_97] 44)).cell? ⟨w7.heap.size, 6, none⟩ = some (I (d1.beta)) := by simp
      have q1_7 : (w7.alloc (.cells #[I (d1.kind), I (d1.src), I (d1.dst), .slice B1_37 d1.path.length cB1_37, I (d1.pidx), I (d1.hidx), I (d1.beta), I (d1.rid), I (d1.seq), .slice B1_97 d1.pay.length cB1_97] 44)).cell? ⟨w7.heap.size, 7, none⟩ = some (I (d1.rid)) := by simp
      have q1_8 : (w7.alloc (.cells #[I (d1.kind), I (d1.src), I (d1.dst), .slice B1_37 d1.path.length cB1_37, I (d1.pidx), I (d1.hidx), I (d1.beta), I (d1.rid), I (d1.seq), .slice B1_97 d1.pay.length cB1_97] 44)).cell? ⟨w7.heap.size, 8, none⟩ = some (I (d1.seq)) := by simp
      have q1_9 : (w7.alloc (.cells #[I (d1.kind), I (d1.src), I (d1.dst), .slice B1_37 d1.path.length cB1_37, I (d1.pidx), I (d1.hidx), I (d1.beta), I (d1.rid), I (d1.seq), .slice B1_97 d1.pay.length cB1_97] 44)).cell? ⟨w7.heap.size, 9, none⟩ = some (.slice B1_97 d1.pay.length cB1_97) := by simp
      go_wp2_with (fail)
      refine (impl_EqualPackets d0 _ d1 _ _ (pktT.rd hQ6''') sz0 l0 G0.out (pktT.rd hQ7') sz1 l1 G1.out).mono ?_
      rintro e w8 ⟨rfl, hb8⟩
      have p0_0'''''''''' := ck hb8 p0_0'''''''''
      have p0_1'''''''''' := ck hb8 p0_1'''''''''
      have p0_2'''''''''' := ck hb8 p0_2'''''''''
      have p0_3'''''''''' := ck hb8 p0_3'''''''''
      have p0_4'''''''''' := ck hb8 p0_4'''''''''
      have p0_5'''''''''' := ck hb8 p0_5'''''''''
      have p0_6'''''''''' := ck hb8 p0_6'''''''''
      have p0_7'''''''''' := ck hb8 p0_7'''''''''
      have p0_8'''''''''' := ck hb8 p0_8'''''''''
      have p0_9'''''''''' := ck hb8 p0_9'''''''''
      have p1_0'''''''''' := ck hb8 p1_0'''''''''
      have p1_1'''''''''' := ck hb8 p1_1'''''''''
      have p1_2'''''''''' := ck hb8 p1_2'''''''''
      have p1_3'''''''''' := ck hb8 p1_3'''''''''
      have p1_4'''''''''' := ck hb8 p1_4'''''''''
      have p1_5'''''''''' := ck hb8 p1_5'''''''''
      have p1_6'''''''''' := ck hb8 p1_6'''''''''
      have p1_7'''''''''' := ck hb8 p1_7'''''''''
      have p1_8'''''''''' := ck hb8 p1_8'''''''''
      have p1_9'''''''''' := ck hb8 p1_9'''''''''
      have q0_0''' := ck hb8 q0_0''
      have q0_1''' := ck hb8 q0_1''
      have q0_2''' := ck hb8 q0_2''
      have q0_3''' := ck hb8 q0_3''
      have q0_4''' := ck hb8 q0_4''
      have q0_5''' := ck hb8 q0_5''
      have q0_6''' := ck hb8 q0_6''
      have q0_7''' := ck hb8 q0_7''
      have q0_8''' := ck hb8 q0_8''
      have q0_9''' := ck hb8 q0_9''
      have q1_0' := ck hb8 q1_0
      have q1_1' := ck hb8 q1_1
      have q1_2' := ck hb8 q1_2
      have q1_3' := ck hb8 q1_3
      have q1_4' := ck hb8 q1_4
      have q1_5' := ck hb8 q1_5
      have q1_6' := ck hb8 q1_6
      have q1_7' := ck hb8 q1_7
      have q1_8' := ck hb8 q1_8
      have q1_9' := ck hb8 q1_9
      have x_8 := ext_trans x_7' hb8
      have hQ6'''' := pktT.obelow hQ6''' hb8
      have hQ7'' := pktT.obelow hQ7' hb8
      clear p0_0''''''''' p0_1''''''''' p0_2''''''''' p0_3''''''''' p0_4''''''''' p0_5''''''''' p0_6''''''''' p0_7''''''''' p0_8''''''''' p0_9''''''''' p1_0''''''''' p1_1''''''''' p1_2''''''''' p1_3''''''''' p1_4''''''''' p1_5''''''''' p1_6''''''''' p1_7''''''''' p1_8''''''''' p1_9''''''''' q0_0'' q0_1'' q0_2'' q0_3'' q0_4'' q0_5'' q0_6'' q0_7'' q0_8'' q0_9'' q1_0 q1_1 q1_2 q1_3 q1_4 q1_5 q1_6 q1_7 q1_8 q1_9 hQ6''' hQ7'
      go_wp2_with (fail)
      go_region_held3 (fun w' => w'.cell? ⟨w.heap.size, 0, none⟩ = some (I (d0.kind)) ∧ w'.cell? ⟨w.heap.size, 1, none⟩ = some (I (d0.src)) ∧ w'.cell? ⟨w.heap.size, 2, none⟩ = some (I (d0.dst)) ∧ w'.cell? ⟨w.heap.size, 3, none⟩ = some (.slice A0_3 d0.path.length cA0_3) ∧ w'.cell? ⟨w.heap.size, 4, none⟩ = some (I (d0.pidx)) ∧ w'.cell? ⟨w.heap.size, 5, none⟩ = some (I (d0.hidx)) ∧ w'.cell? ⟨w.heap.size, 6, none⟩ = some (I (d0.beta)) ∧ w'.cell? ⟨w.heap.size, 7, none⟩ = some (I (d0.rid)) ∧ w'.cell? ⟨w.heap.size, 8, none⟩ = some (I (d0.seq)) ∧ w'.cell? ⟨w.heap.size, 9, none⟩ = some (.slice A0_9 d0.pay.length cA0_9) ∧ w'.cell? ⟨w.heap.size + 1, 0, none⟩ = some (I (d1.kind)) ∧ w'.cell? ⟨w.heap.size + 1, 1, none⟩ = some (I (d1.src)) ∧ w'.cell? ⟨w.heap.size + 1, 2, none⟩ = some (I (d1.dst)) ∧ w'.cell? ⟨w.heap.size + 1, 3, none⟩ = some (.slice A1_3 d1.path.length cA1_3) ∧ w'.cell? ⟨w.heap.size + 1, 4, none⟩ = some (I (d1.pidx)) ∧ w'.cell? ⟨w.heap.size + 1, 5, none⟩ = some (I (d1.hidx)) ∧ w'.cell? ⟨w.heap.size + 1, 6, none⟩ = some (I (d1.beta)) ∧ w'.cell? ⟨w.heap.size + 1, 7, none⟩ = some (I (d1.rid)) ∧ w'.cell? ⟨w.heap.size + 1, 8, none⟩ = some (I (d1.seq)) ∧ w'.cell? ⟨w.heap.size + 1, 9, none⟩ = some (.slice A1_9 d1.pay.length cA1_9) ∧ w'.cell? ⟨w6.heap.size, 0, none⟩ = some (I (d0.kind)) ∧ w'.cell? ⟨w6.heap.size, 1, none⟩ = some (I (d0.src)) ∧ w'.cell? ⟨w6.heap.size, 2, none⟩ = some (I (d0.dst)) ∧ w'.cell? ⟨w6.heap.size, 3, none⟩ = some (.slice B0_36 d0.path.length cB0_36) ∧ w'.cell? ⟨w6.heap.size, 4, none⟩ = some (I (d0.pidx)) ∧ w'.cell? ⟨w6.heap.size, 5, none⟩ = some (I (d0.hidx)) ∧ w'.cell? ⟨w6.heap.size, 6, none⟩ = some (I (d0.beta)) ∧ w'.cell? ⟨w6.heap.size, 7, none⟩ = some (I (d0.rid)) ∧ w'.cell? ⟨w6.heap.size, 8, none⟩ = some (I (d0.seq)) ∧ w'.cell? ⟨w6.heap.size, 9, none⟩ = some (.slice B0_96 d0.pay.length cB0_96) ∧ w'.cell? ⟨w7.heap.size, 0, none⟩ = some (I (d1.kind)) ∧ w'.cell? ⟨w7.heap.size, 1, none⟩ = some (I (d1.src)) ∧ w'.cell? ⟨w7.heap.size, 2, none⟩ = some (I (d1.dst)) ∧ w'.cell? ⟨w7.heap.size, 3, none⟩ = some (.slice B1_37 d1.path.length cB1_37) ∧ w'.cell? ⟨w7.heap.size, 4, none⟩ = some (I (d1.pidx)) ∧ w'.cell? ⟨w7.heap.size, 5, none⟩ = some (I (d1.hidx)) ∧ w'.cell? ⟨w7.heap.size, 6, none⟩ = some (I (d1.beta)) ∧ w'.cell? ⟨w7.heap.size, 7, none⟩ = some (I (d1.rid)) ∧ w'.cell? ⟨w7.heap.size, 8, none⟩ = some (I (d1.seq)) ∧ w'.cell? ⟨w7.heap.size, 9, none⟩ = some (.slice B1_97 d1.pay.length cB1_97)) (first | exact ⟨p0_0'''''''''', p0_1'''''''''', p0_2'''''''''', p0_3'''''''''', p0_4'''''''''', p0_5'''''''''', p0_6'''''''''', p0_7'''''''''', p0_8'''''''''', p0_9'''''''''', p1_0'''''''''', p1_1'''''''''', p1_2'''''''''', p1_3'''''''''', p1_4'''''''''', p1_5'''''''''', p1_6'''''''''', p1_7'''''''''', p1_8'''''''''', p1_9'''''''''', q0_0''', q0_1''', q0_2''', q0_3''', q0_4''', q0_5''', q0_6''', q0_7''', q0_8''', q0_9''', q1_0', q1_1', q1_2', q1_3', q1_4', q1_5', q1_6', q1_7', q1_8', q1_9'⟩ | exact ⟨p0_0''''''''''', p0_1''''''''''', p0_2''''''''''', p0_3''''''''''', p0_4''''''''''', p0_5''''''''''', p0_6''''''''''', p0_7''''''''''', p0_8''''''''''', p0_9''''''''''', p1_0''''''''''', p1_1''''''''''', p1_2''''''''''', p1_3''''''''''', p1_4''''''''''', p1_5''''''''''', p1_6''''''''''', p1_7''''''''''', p1_8''''''''''', p1_9''''''''''', q0_0'''', q0_1'''', q0_2'''', q0_3'''', q0_4'''', q0_5'''', q0_6'''', q0_7'''', q0_8'''', q0_9'''', q1_0'', q1_1'', q1_2'', q1_3'', q1_4'', q1_5'', q1_6'', q1_7'', q1_8'', q1_9''⟩ | exact ⟨p0_0'''''''''''', p0_1'''''''''''', p0_2'''''''''''', p0_3'''''''''''', p0_4'''''''''''', p0_5'''''''''''', p0_6'''''''''''', p0_7'''''''''''', p0_8'''''''''''', p0_9'''''''''''', p1_0'''''''''''', p1_1'''''''''''', p1_2'''''''''''', p1_3'''''''''''', p1_4'''''''''''', p1_5'''''''''''', p1_6'''''''''''', p1_7'''''''''''', p1_8'''''''''''', p1_9'''''''''''', q0_0''''', q0_1''''', q0_2''''', q0_3''''', q0_4''''', q0_5''''', q0_6''''', q0_7''''', q0_8''''', q0_9''''', q1_0''', q1_1''', q1_2''', q1_3''', q1_4''', q1_5''', q1_6''', q1_7''', q1_8''', q1_9'''⟩) (first
        | (go_at_call 25; refine (to_pkt d0 _ _ (pktT.kp h0 (x_8.drew)) sz0).mono ?_; rintro e w9 ⟨cq9, fq9, rfl, hQ9, hb9⟩; obtain ⟨B0_39, cB0_39, B0_99, cB0_99, fB0_39, fB0_99, rfl, _⟩ := pkt_oform hQ9; have p0_0''''''''''' := ck hb9 (show w8.drew.cell? ⟨w.heap.size, 0, none⟩ = _ from p0_0''''''''''); have p0_1''''''''''' := ck hb9 (show w8.drew.cell? ⟨w.heap.size, 1, none⟩ = _ from p0_1''''''''''); have p0_2''''''''''' := ck hb9 (show w8.drew.cell? ⟨w.heap.size, 2, none⟩ = _ from p0_2''''''''''); have p0_3''''''''''' := ck hb9 (show w8.drew.cell? ⟨w.heap.size, 3, none⟩ = _ from p0_3''''''''''); have p0_4''''''''''' := ck hb9 (show w8.drew.cell? ⟨w.heap.size, 4, none⟩ = _ from p0_4''''''''''); have p0_5''''''''''' := ck hb9 (show w8.drew.cell? ⟨w.heap.size, 5, none⟩ = _ from p0_5''''''''''); have p0_6''''''''''' := ck hb9 (show w8.drew.cell? ⟨w.heap.size, 6, none⟩ = _ from p0_6''''''''''); have p0_7''''''''''' := ck hb9 (show w8.drew.cell? ⟨w.heap.size, 7, none⟩ = _ from p0_7''''''''''); have p0_8''''''''''' := ck hb9 (show w8.drew.cell? ⟨w.heap.size, 8, none⟩ = _ from p0_8''''''''''); have p0_9''''''''''' := ck hb9 (show w8.drew.cell? ⟨w.heap.size, 9, none⟩ = _ from p0_9''''''''''); have p1_0''''''''''' := ck hb9 (show w8.drew.cell? ⟨w.heap.size + 1, 0, none⟩ = _ from p1_0''''''''''); have p1_1''''''''''' := ck hb9 (show w8.drew.cell? ⟨w.heap.size + 1, 1, none⟩ = _ from p1_1''''''''''); have p1_2''''''''''' := ck hb9 (show w8.drew.cell? ⟨w.heap.size + 1, 2, none⟩ = _ from p1_2''''''''''); have p1_3''''''''''' := ck hb9 (show w8.drew.cell? ⟨w.heap.size + 1, 3, none⟩ = _ from p1_3''''''''''); have p1_4''''''''''' := ck hb9 (show w8.drew.cell? ⟨w.heap.size + 1, 4, none⟩ = _ from p1_4''''''''''); have p1_5''''''''''' := ck hb9 (show w8.drew.cell? ⟨w.heap.size + 1, 5, none⟩ = _ from p1_5''''''''''); have p1_6''''''''''' := ck hb9 (show w8.drew.cell? ⟨w.heap.size + 1, 6, none⟩ = _ from p1_6''''''''''); have p1_7''''''''''' := ck hb9 (show w8.drew.cell? ⟨w.heap.size + 1, 7, none⟩ = _ from p1_7''''''''''); have p1_8''''''''''' := ck hb9 (show w8.drew.cell? ⟨w.heap.size + 1, 8, none⟩ = _ from p1_8''''''''''); have p1_9''''''''''' := ck hb9 (show w8.drew.cell? ⟨w.heap.size + 1, 9, none⟩ = _ from p1_9''''''''''); have q0_0'''' := ck hb9 (show w8.drew.cell? ⟨w6.heap.size, 0, none⟩ = _ from q0_0'''); have q0_1'''' := ck hb9 (show w8.drew.cell? ⟨w6.heap.size, 1, none⟩ = _ from q0_1'''); have q0_2'''' := ck hb9 (show w8.drew.cell? ⟨w6.heap.size, 2, none⟩ = _ from q0_2'''); have q0_3'''' := ck hb9 (show w8.drew.cell? ⟨w6.heap.size, 3, none⟩ = _ from q0_3'''); have q0_4'''' := ck hb9 (show w8.drew.cell? ⟨w6.heap.size, 4, none⟩ = _ from q0_4'''); have q0_5'''' := ck hb9 (show w8.drew.cell? ⟨w6.heap.size, 5, none⟩ = _ from q0_5'''); have q0_6'''' := ck hb9 (show w8.drew.cell? ⟨w6.heap.size, 6, none⟩ = _ from q0_6'''); have q0_7'''' := ck hb9 (show w8.drew.cell? ⟨w6.heap.size, 7, none⟩ = _ from q0_7'''); have q0_8'''' := ck hb9 (show w8.drew.cell? ⟨w6.heap.size, 8, none⟩ = _ from q0_8'''); have q0_9'''' := ck hb9 (show w8.drew.cell? ⟨w6.heap.size, 9, none⟩ = _ from q0_9'''); have q1_0'' := ck hb9 (show w8.drew.cell? ⟨w7.heap.size, 0, none⟩ = _ from q1_0'); have q1_1'' := ck hb9 (show w8.drew.cell? ⟨w7.heap.size, 1, none⟩ = _ from q1_1'); have q1_2'' := ck hb9 (show w8.drew.cell? ⟨w7.heap.size, 2, none⟩ = _ from q1_2'); have q1_3'' := ck hb9 (show w8.drew.cell? ⟨w7.heap.size, 3, none⟩ = _ from q1_3'); have q1_4'' := ck hb9 (show w8.drew.cell? ⟨w7.heap.size, 4, none⟩ = _ from q1_4'); have q1_5'' := ck hb9 (show w8.drew.cell? ⟨w7.heap.size, 5, none⟩ = _ from q1_5'); have q1_6'' := ck hb9 (show w8.drew.cell? ⟨w7.heap.size, 6, none⟩ = _ from q1_6'); have q1_7'' := ck hb9 (show w8.drew.cell? ⟨w7.heap.size, 7, none⟩ = _ from q1_7'); have q1_8'' := ck hb9 (show w8.drew.cell? ⟨w7.heap.size, 8, none⟩ = _ from q1_8'); have q1_9'' := ck hb9 (show w8.drew.cell? ⟨w7.heap.size, 9, none⟩ = _ from q1_9'); have x_9 := ext_trans x_8.drew hb9; have hQ6''''' := pktT.obelow (pktT.obelow hQ6'''' (below_drew _)) hb9; have hQ7''' := pktT.obelow (pktT.obelow hQ7'' (below_drew _)) hb9)
        | (go_at_call 27; refine (eq_pkt d0 _ _ _ (pktT.rd hQ6''''') (pktT.rd hQ9) sz0).mono ?_; rintro e w10 ⟨rfl, hb10⟩; have p0_0'''''''''''' := ck hb10 p0_0'''''''''''; have p0_1'''''''''''' := ck hb10 p0_1'''''''''''; have p0_2'''''''''''' := ck hb10 p0_2'''''''''''; have p0_3'''''''''''' := ck hb10 p0_3'''''''''''; have p0_4'''''''''''' := ck hb10 p0_4'''''''''''; have p0_5'''''''''''' := ck hb10 p0_5'''''''''''; have p0_6'''''''''''' := ck hb10 p0_6'''''''''''; have p0_7'''''''''''' := ck hb10 p0_7'''''''''''; have p0_8'''''''''''' := ck hb10 p0_8'''''''''''; have p0_9'''''''''''' := ck hb10 p0_9'''''''''''; have p1_0'''''''''''' := ck hb10 p1_0'''''''''''; have p1_1'''''''''''' := ck hb10 p1_1'''''''''''; have p1_2'''''''''''' := ck hb10 p1_2'''''''''''; have p1_3'''''''''''' := ck hb10 p1_3'''''''''''; have p1_4'''''''''''' := ck hb10 p1_4'''''''''''; have p1_5'''''''''''' := ck hb10 p1_5'''''''''''; have p1_6'''''''''''' := ck hb10 p1_6'''''''''''; have p1_7'''''''''''' := ck hb10 p1_7'''''''''''; have p1_8'''''''''''' := ck hb10 p1_8'''''''''''; have p1_9'''''''''''' := ck hb10 p1_9'''''''''''; have q0_0''''' := ck hb10 q0_0''''; have q0_1''''' := ck hb10 q0_1''''; have q0_2''''' := ck hb10 q0_2''''; have q0_3''''' := ck hb10 q0_3''''; have q0_4''''' := ck hb10 q0_4''''; have q0_5''''' := ck hb10 q0_5''''; have q0_6''''' := ck hb10 q0_6''''; have q0_7''''' := ck hb10 q0_7''''; have q0_8''''' := ck hb10 q0_8''''; have q0_9''''' := ck hb10 q0_9''''; have q1_0''' := ck hb10 q1_0''; have q1_1''' := ck hb10 q1_1''; have q1_2''' := ck hb10 q1_2''; have q1_3''' := ck hb10 q1_3''; have q1_4''' := ck hb10 q1_4''; have q1_5''' := ck hb10 q1_5''; have q1_6''' := ck hb10 q1_6''; have q1_7''' := ck hb10 q1_7''; have q1_8''' := ck hb10 q1_8''; have q1_9''' := ck hb10 q1_9''; have x_10 := ext_trans x_9 hb10; have hQ6'''''' := pktT.obelow hQ6''''' hb10; have hQ7'''' := pktT.obelow hQ7''' hb10; have hQ9' := pktT.obelow hQ9 hb10))
      go_wp2_with (fail)
      go_region_held3 (fun w' => w'.cell? ⟨w.heap.size, 0, none⟩ = some (I (d0.kind)) ∧ w'.cell? ⟨w.heap.size, 1, none⟩ = some (I (d0.src)) ∧ w'.cell? ⟨w.heap.size, 2, none⟩ = some (I (d0.dst)) ∧ w'.cell? ⟨w.heap.size, 3, none⟩ = some (.slice A0_3 d0.path.length cA0_3) ∧ w'.cell? ⟨w.heap.size, 4, none⟩ = some (I (d0.pidx)) ∧ w'.cell? ⟨w.heap.size, 5, none⟩ = some (I (d0.hidx)) ∧ w'.cell? ⟨w.heap.size, 6, none⟩ = some (I (d0.beta)) ∧ w'.cell? ⟨w.heap.size, 7, none⟩ = some (I (d0.rid)) ∧ w'.cell? ⟨w.heap.size, 8, none⟩ = some (I (d0.seq)) ∧ w'.cell? ⟨w.heap.size, 9, none⟩ = some (.slice A0_9 d0.pay.length cA0_9) ∧ w'.cell? ⟨w.heap.size + 1, 0, none⟩ = some (I (d1.kind)) ∧ w'.cell? ⟨w.heap.size + 1, 1, none⟩ = some (I (d1.src)) ∧ w'.cell? ⟨w.heap.size + 1, 2, none⟩ = some (I (d1.dst)) ∧ w'.cell? ⟨w.heap.size + 1, 3, none⟩ = some (.slice A1_3 d1.path.length cA1_3) ∧ w'.cell? ⟨w.heap.size + 1, 4, none⟩ = some (I (d1.pidx)) ∧ w'.cell? ⟨w.heap.size + 1, 5, none⟩ = some (I (d1.hidx)) ∧ w'.cell? ⟨w.heap.size + 1, 6, none⟩ = some (I (d1.beta)) ∧ w'.cell? ⟨w.heap.size + 1, 7, none⟩ = some (I (d1.rid)) ∧ w'.cell? ⟨w.heap.size + 1, 8, none⟩ = some (I (d1.seq)) ∧ w'.cell? ⟨w.heap.size + 1, 9, none⟩ = some (.slice A1_9 d1.pay.length cA1_9) ∧ w'.cell? ⟨w6.heap.size, 0, none⟩ = some (I (d0.kind)) ∧ w'.cell? ⟨w6.heap.size, 1, none⟩ = some (I (d0.src)) ∧ w'.cell? ⟨w6.heap.size, 2, none⟩ = some (I (d0.dst)) ∧ w'.cell? ⟨w6.heap.size, 3, none⟩ = some (.slice B0_36 d0.path.length cB0_36) ∧ w'.cell? ⟨w6.heap.size, 4, none⟩ = some (I (d0.pidx)) ∧ w'.cell? ⟨w6.heap.size, 5, none⟩ = some (I (d0.hidx)) ∧ w'.cell? ⟨w6.heap.size, 6, none⟩ = some (I (d0.beta)) ∧ w'.cell? ⟨w6.heap.size, 7, none⟩ = some (I (d0.rid)) ∧ w'.cell? ⟨w6.heap.size, 8, none⟩ = some (I (d0.seq)) ∧ w'.cell? ⟨w6.heap.size, 9, none⟩ = some (.slice B0_96 d0.pay.length cB0_96) ∧ w'.cell? ⟨w7.heap.size, 0, none⟩ = some (I (d1.kind)) ∧ w'.cell? ⟨w7.heap.size, 1, none⟩ = some (I (d1.src)) ∧ w'.cell? ⟨w7.heap.size, 2, none⟩ = some (I (d1.dst)) ∧ w'.cell? ⟨w7.heap.size, 3, none⟩ = some (.slice B1_37 d1.path.length cB1_37) ∧ w'.cell? ⟨w7.heap.size, 4, none⟩ = some (I (d1.pidx)) ∧ w'.cell? ⟨w7.heap.size, 5, none⟩ = some (I (d1.hidx)) ∧ w'.cell? ⟨w7.heap.size, 6, none⟩ = some (I (d1.beta)) ∧ w'.cell? ⟨w7.heap.size, 7, none⟩ = some (I (d1.rid)) ∧ w'.cell? ⟨w7.heap.size, 8, none⟩ = some (I (d1.seq)) ∧ w'.cell? ⟨w7.heap.size, 9, none⟩ = some (.slice B1_97 d1.pay.length cB1_97)) (first | exact ⟨p0_0'''''''''''', p0_1'''''''''''', p0_2'''''''''''', p0_3'''''''''''', p0_4'''''''''''', p0_5'''''''''''', p0_6'''''''''''', p0_7'''''''''''', p0_8'''''''''''', p0_9'''''''''''', p1_0'''''''''''', p1_1'''''''''''', p1_2'''''''''''', p1_3'''''''''''', p1_4'''''''''''', p1_5'''''''''''', p1_6'''''''''''', p1_7'''''''''''', p1_8'''''''''''', p1_9'''''''''''', q0_0''''', q0_1''''', q0_2''''', q0_3''''', q0_4''''', q0_5''''', q0_6''''', q0_7''''', q0_8''''', q0_9''''', q1_0''', q1_1''', q1_2''', q1_3''', q1_4''', q1_5''', q1_6''', q1_7''', q1_8''', q1_9'''⟩ | exact ⟨p0_0''''''''''''', p0_1''''''''''''', p0_2''''''''''''', p0_3''''''''''''', p0_4''''''''''''', p0_5''''''''''''', p0_6''''''''''''', p0_7''''''''''''', p0_8''''''''''''', p0_9''''''''''''', p1_0''''''''''''', p1_1''''''''''''', p1_2''''''''''''', p1_3''''''''''''', p1_4''''''''''''', p1_5''''''''''''', p1_6''''''''''''', p1_7''''''''''''', p1_8''''''''''''', p1_9''''''''''''', q0_0'''''', q0_1'''''', q0_2'''''', q0_3'''''', q0_4'''''', q0_5'''''', q0_6'''''', q0_7'''''', q0_8'''''', q0_9'''''', q1_0'''', q1_1'''', q1_2'''', q1_3'''', q1_4'''', q1_5'''', q1_6'''', q1_7'''', q1_8'''', q1_9''''⟩ | exact ⟨p0_0'''''''''''''', p0_1'''''''''''''', p0_2'''''''''''''', p0_3'''''''''''''', p0_4'''''''''''''', p0_5'''''''''''''', p0_6'''''''''''''', p0_7'''''''''''''', p0_8'''''''''''''', p0_9'''''''''''''', p1_0'''''''''''''', p1_1'''''''''''''', p1_2'''''''''''''', p1_3'''''''''''''', p1_4'''''''''''''', p1_5'''''''''''''', p1_6'''''''''''''', p1_7'''''''''''''', p1_8'''''''''''''', p1_9'''''''''''''', q0_0''''''', q0_1''''''', q0_2''''''', q0_3''''''', q0_4''''''', q0_5''''''', q0_6''''''', q0_7''''''', q0_8''''''', q0_9''''''', q1_0''''', q1_1''''', q1_2''''', q1_3''''', q1_4''''', q1_5''''', q1_6''''', q1_7''''', q1_8''''', q1_9'''''⟩) (first
        | (go_at_call 25; refine (to_pkt d1 _ _ (pktT.kp h1 (x_10.drew)) sz1).mono ?_; rintro e w11 ⟨cq11, fq11, rfl, hQ11, hb11⟩; obtain ⟨B1_311, cB1_311, B1_911, cB1_911, fB1_311, fB1_911, rfl, _⟩ := pkt_oform hQ11; have p0_0''''''''''''' := ck hb11 (show w10.drew.cell? ⟨w.heap.size, 0, none⟩ = _ from p0_0''''''''''''); have p0_1''''''''''''' := ck hb11 (show w10.drew.cell? ⟨w.heap.size, 1, none⟩ = _ from p0_1''''''''''''); have p0_2''''''''''''' := ck hb11 (show w10.drew.cell? ⟨w.heap.size, 2, none⟩ = _ from p0_2''''''''''''); have p0_3''''''''''''' := ck hb11 (show w10.drew.cell? ⟨w.heap.size, 3, none⟩ = _ from p0_3''''''''''''); have p0_4''''''''''''' := ck hb11 (show w10.drew.cell? ⟨w.heap.size, 4, none⟩ = _ from p0_4''''''''''''); have p0_5''''''''''''' := ck hb11 (show w10.drew.cell? ⟨w.heap.size, 5, none⟩ = _ from p0_5''''''''''''); have p0_6''''''''''''' := ck hb11 (show w10.drew.cell? ⟨w.heap.size, 6, none⟩ = _ from p0_6''''''''''''); have p0_7''''''''''''' := ck hb11 (show w10.drew.cell? ⟨w.heap.size, 7, none⟩ = _ from p0_7''''''''''''); have p0_8''''''''''''' := ck hb11 (show w10.drew.cell? ⟨w.heap.size, 8, none⟩ = _ from p0_8''''''''''''); have p0_9''''''''''''' := ck hb11 (show w10.drew.cell? ⟨w.heap.size, 9, none⟩ = _ from p0_9''''''''''''); have p1_0''''''''''''' := ck hb11 (show w10.drew.cell? ⟨w.heap.size + 1, 0, none⟩ = _ from p1_0''''''''''''); have p1_1''''''''''''' := ck hb11 (show w10.drew.cell? ⟨w.heap.size + 1, 1, none⟩ = _ from p1_1''''''''''''); have p1_2''''''''''''' := ck hb11 (show w10.drew.cell? ⟨w.heap.size + 1, 2, none⟩ = _ from p1_2''''''''''''); have p1_3''''''''''''' := ck hb11 (show w10.drew.cell? ⟨w.heap.size + 1, 3, none⟩ = _ from p1_3''''''''''''); have p1_4''''''''''''' := ck hb11 (show w10.drew.cell? ⟨w.heap.size + 1, 4, none⟩ = _ from p1_4''''''''''''); have p1_5''''''''''''' := ck hb11 (show w10.drew.cell? ⟨w.heap.size + 1, 5, none⟩ = _ from p1_5''''''''''''); have p1_6''''''''''''' := ck hb11 (show w10.drew.cell? ⟨w.heap.size + 1, 6, none⟩ = _ from p1_6''''''''''''); have p1_7''''''''''''' := ck hb11 (show w10.drew.cell? ⟨w.heap.size + 1, 7, none⟩ = _ from p1_7''''''''''''); have p1_8''''''''''''' := ck hb11 (show w10.drew.cell? ⟨w.heap.size + 1, 8, none⟩ = _ from p1_8''''''''''''); have p1_9''''''''''''' := ck hb11 (show w10.drew.cell? ⟨w.heap.size + 1, 9, none⟩ = _ from p1_9''''''''''''); have q0_0'''''' := ck hb11 (show w10.drew.cell? ⟨w6.heap.size, 0, none⟩ = _ from q0_0'''''); have q0_1'''''' := ck hb11 (show w10.drew.cell? ⟨w6.heap.size, 1, none⟩ = _ from q0_1'''''); have q0_2'''''' := ck hb11 (show w10.drew.cell? ⟨w6.heap.size, 2, none⟩ = _ from q0_2'''''); have q0_3'''''' := ck hb11 (show w10.drew.cell? ⟨w6.heap.size, 3, none⟩ = _ from q0_3'''''); have q0_4'''''' := ck hb11 (show w10.drew.cell? ⟨w6.heap.size, 4, none⟩ = _ from q0_4'''''); have q0_5'''''' := ck hb11 (show w10.drew.cell? ⟨w6.heap.size, 5, none⟩ = _ from q0_5'''''); have q0_6'''''' := ck hb11 (show w10.drew.cell? ⟨w6.heap.size, 6, none⟩ = _ from q0_6'''''); have q0_7'''''' := ck hb11 (show w10.drew.cell? ⟨w6.heap.size, 7, none⟩ = _ from q0_7'''''); have q0_8'''''' := ck hb11 (show w10.drew.cell? ⟨w6.heap.size, 8, none⟩ = _ from q0_8'''''); have q0_9'''''' := ck hb11 (show w10.drew.cell? ⟨w6.heap.size, 9, none⟩ = _ from q0_9'''''); have q1_0'''' := ck hb11 (show w10.drew.cell? ⟨w7.heap.size, 0, none⟩ = _ from q1_0'''); have q1_1'''' := ck hb11 (show w10.drew.cell? ⟨w7.heap.size, 1, none⟩ = _ from q1_1'''); have q1_2'''' := ck hb11 (show w10.drew.cell? ⟨w7.heap.size, 2, none⟩ = _ from q1_2'''); have q1_3'''' := ck hb11 (show w10.drew.cell? ⟨w7.heap.size, 3, none⟩ = _ from q1_3'''); have q1_4'''' := ck hb11 (show w10.drew.cell? ⟨w7.heap.size, 4, none⟩ = _ from q1_4'''); have q1_5'''' := ck hb11 (show w10.drew.cell? ⟨w7.heap.size, 5, none⟩ = _ from q1_5'''); have q1_6'''' := ck hb11 (show w10.drew.cell? ⟨w7.heap.size, 6, none⟩ = _ from q1_6'''); have q1_7'''' := ck hb11 (show w10.drew.cell? ⟨w7.heap.size, 7, none⟩ = _ from q1_7'''); have q1_8'''' := ck hb11 (show w10.drew.cell? ⟨w7.heap.size, 8, none⟩ = _ from q1_8'''); have q1_9'''' := ck hb11 (show w10.drew.cell? ⟨w7.heap.size, 9, none⟩ = _ from q1_9'''); have x_11 := ext_trans x_10.drew hb11; have hQ6''''''' := pktT.obelow (pktT.obelow hQ6'''''' (below_drew _)) hb11; have hQ7''''' := pktT.obelow (pktT.obelow hQ7'''' (below_drew _)) hb11)
        | (go_at_call 27; refine (eq_pkt d1 _ _ _ (pktT.rd hQ7''''') (pktT.rd hQ11) sz1).mono ?_; rintro e w12 ⟨rfl, hb12⟩; have p0_0'''''''''''''' := ck hb12 p0_0'''''''''''''; have p0_1'''''''''''''' := ck hb12 p0_1'''''''''''''; have p0_2'''''''''''''' := ck hb12 p0_2'''''''''''''; have p0_3'''''''''''''' := ck hb12 p0_3'''''''''''''; have p0_4'''''''''''''' := ck hb12 p0_4'''''''''''''; have p0_5'''''''''''''' := ck hb12 p0_5'''''''''''''; have p0_6'''''''''''''' := ck hb12 p0_6'''''''''''''; have p0_7'''''''''''''' := ck hb12 p0_7'''''''''''''; have p0_8'''''''''''''' := ck hb12 p0_8'''''''''''''; have p0_9'''''''''''''' := ck hb12 p0_9'''''''''''''; have p1_0'''''''''''''' := ck hb12 p1_0'''''''''''''; have p1_1'''''''''''''' := ck hb12 p1_1'''''''''''''; have p1_2'''''''''''''' := ck hb12 p1_2'''''''''''''; have p1_3'''''''''''''' := ck hb12 p1_3'''''''''''''; have p1_4'''''''''''''' := ck hb12 p1_4'''''''''''''; have p1_5'''''''''''''' := ck hb12 p1_5'''''''''''''; have p1_6'''''''''''''' := ck hb12 p1_6'''''''''''''; have p1_7'''''''''''''' := ck hb12 p1_7'''''''''''''; have p1_8'''''''''''''' := ck hb12 p1_8'''''''''''''; have p1_9'''''''''''''' := ck hb12 p1_9'''''''''''''; have q0_0''''''' := ck hb12 q0_0''''''; have q0_1''''''' := ck hb12 q0_1''''''; have q0_2''''''' := ck hb12 q0_2''''''; have q0_3''''''' := ck hb12 q0_3''''''; have q0_4''''''' := ck hb12 q0_4''''''; have q0_5''''''' := ck hb12 q0_5''''''; have q0_6''''''' := ck hb12 q0_6''''''; have q0_7''''''' := ck hb12 q0_7''''''; have q0_8''''''' := ck hb12 q0_8''''''; have q0_9''''''' := ck hb12 q0_9''''''; have q1_0''''' := ck hb12 q1_0''''; have q1_1''''' := ck hb12 q1_1''''; have q1_2''''' := ck hb12 q1_2''''; have q1_3''''' := ck hb12 q1_3''''; have q1_4''''' := ck hb12 q1_4''''; have q1_5''''' := ck hb12 q1_5''''; have q1_6''''' := ck hb12 q1_6''''; have q1_7''''' := ck hb12 q1_7''''; have q1_8''''' := ck hb12 q1_8''''; have q1_9''''' := ck hb12 q1_9''''; have x_12 := ext_trans x_11 hb12; have hQ6'''''''' := pktT.obelow hQ6''''''' hb12; have hQ7'''''' := pktT.obelow hQ7''''' hb12; have hQ11' := pktT.obelow hQ11 hb12))
      go_wp2_with (fail)
      go_ret
      exact ⟨rfl, x_12⟩
    ·
      go_enter Try.func10, Try.ntmps10
      have p0_0 : ((w.alloc (.cells #[I (d0.kind), I (d0.src), I (d0.dst), .slice A0_3 d0.path.length cA0_3, I (d0.pidx), I (d0.hidx), I (d0.beta), I (d0.rid), I (d0.seq), .slice A0_9 d0.pay.length cA0_9] 40)).alloc (.cells #[I (d1.kind), I (d1.src), I (d1.dst), .slice A1_3 d1.path.length cA1_3, I (d1.pidx), I (d1.hidx), I (d1.beta), I (d1.rid), I (d1.seq), .slice A1_9 d1.pay.length cA1_9] 40)).cell? ⟨w.heap.size, 0, none⟩ = some (I (d0.kind)) := by simp
      have p0_1 : ((w.alloc (.cells #[I (d0.kind), I (d0.src), I (d0.dst), .slice A0_3 d0.path.length cA0_3, I (d0.pidx), I (d0.hidx), I (d0.beta), I (d0.rid), I (d0.seq), .slice A0_9 d0.pay.length cA0_9] 40)).alloc (.cells #[I (d1.kind), I (d1.src), I (d1.dst), .slice A1_3 d1.path.length cA1_3, I (d1.pidx), I (d1.hidx), I (d1.beta), I (d1.rid), I (d1.seq), .slice A1_9 d1.pay.length cA1_9] 40)).cell? ⟨w.heap.size, 1, none⟩ = some (I (d0.src)) := by simp
      have p0_2 : ((w.alloc (.cells #[I (d0.kind), I (d0.src), I (d0.dst), .slice A0_3 d0.path.length cA0_3, I (d0.pidx), I (d0.hidx), I (d0.beta), I (d0.rid), I (d0.seq), .slice A0_9 d0.pay.length cA0_9] 40)).alloc (.cells #[I (d1.kind), I (d1.src), I (d1.dst), .slice A1_3 d1.path.length cA1_3, I (d1.pidx), I (d1.hidx), I (d1.beta), I (d1.rid), I (d1.seq), .slice A1_9 d1.pay.length cA1_9] 40)).cell? ⟨w.heap.size, 2, none⟩ = some (I (d0.dst)) := by simp
      have p0_3 : ((w.alloc (.cells #[I (d0.kind), I (d0.src), I (d0.dst), .slice A0_3 d0.path.length cA0_3, I (d0.pidx), I (d0.hidx), I (d0.beta), I (d0.rid), I (d0.seq), .slice A0_9 d0.pay.length cA0_9] 40)).alloc (.cells #[I (d1.kind), I (d1.src), I (d1.dst), .slice A1_3 d1.path.length cA1_3, I (d1.pidx), I (d1.hidx), I (d1.beta), I (d1.rid), I (d1.seq), .slice A1_9 d1.pay.length cA1_9] 40)).cell? ⟨w.heap.size, 3, none⟩ = some (.slice A0_3 d0.path.length cA0_3) := by simp
      have p0_4 : ((w.alloc (.cells #[I (d0.kind), I (d0.src), I (d0.dst), .slice A0_3 d0.path.length cA0_3, I (d0.pidx), I (d0.hidx), I (d0.beta), I (d0.rid), I (d0.seq), .slice A0_9 d0.pay.length cA0_9] 40)).alloc (.cells #[I (d1.kind), I (d1.src), I (d1.dst), .slice A1_3 d1.path.length cA1_3, I (d1.pidx), I (d1.hidx), I (d1.beta), I (d1.rid), I (d1.seq), .slice A1_9 d1.pay.length cA1_9] 40)).cell? ⟨w.heap.size, 4, none⟩ = some (I (d0.pidx)) := by simp
      have p0_5 : ((w.alloc (.cells #[I (d0.kind), I (d0.src), I (d0.dst), .slice A0_3 d0.path.length cA0_3, I (d0.pidx), I (d0.hidx), I (d0.beta), I (d0.rid), I (d0.seq), .slice A0_9 d0.pay.length cA0_9] 40)).alloc (.cells #[I (d1.kind), I (d1.src), I (d1.dst), .slice A1_3 d1.path.length cA1_3, I (d1.pidx), I (d1.hidx), I (d1.beta), I (d1.rid), I (d1.seq), .slice A1_9 d1.pay.length cA1_9] 40)).cell? ⟨w.heap.size, 5, none⟩ = some (I (d0.hidx)) := by simp
      have p0_6 : ((w.alloc (.cells #[I (d0.kind), I (d0.src), I (d0.dst), .slice A0_3 d0.path.length cA0_3, I (d0.pidx), I (d0.hidx), I (d0.beta), I (d0.rid), I (d0.seq), .slice A0_9 d0.pay.length cA0_9] 40)).alloc (.cells #[I (d1.kind), I (d1.src), I (d1.dst), .slice A1_3 d1.path.length cA1_3, I (d1.pidx), I (d1.hidx), I (d1.beta), I (d1.rid), I (d1.seq), .slice A1_9 d1.pay.length cA1_9] 40)).cell? ⟨w.heap.size, 6, none⟩ = some (I (d0.beta)) := by simp
      have p0_7 : ((w.alloc (.cells #[I (d0.kind), I (d0.src), I (d0.dst), .slice A0_3 d0.path.length cA0_3, I (d0.pidx), I (d0.hidx), I (d0.beta), I (d0.rid), I (d0.seq), .slice A0_9 d0.pay.length cA0_9] 40)).alloc (.cells #[I (d1.kind), I (d1.src), I (d1.dst), .slice A1_3 d1.path.length cA1_3, I (d1.pidx), I (d1.hidx), I (d1.beta), I (d1.rid), I (d1.seq), .slice A1_9 d1.pay.length cA1_9] 40)).cell? ⟨w.heap.size, 7, none⟩ = some (I (d0.rid)) := by simp
      have p0_8 : ((w.alloc (.cells #[I (d0.kind), I (d0.src), I (d0.dst), .slice A0_3 d0.path.length cA0_3, I (d0.pidx), I (d0.hidx), I (d0.beta), I (d0.rid), I (d0.seq), .slice A0_9 d0.pay.length cA0_9] 40)).alloc (.cells #[I (d1.kind), I (d1.src), I (d1.dst), .slice A1_3 d1.path.length cA1_3, I (d1.pidx), I (d1.hidx), I (d1.beta), I (d1.rid), I (d1.seq), .slice A1_9 d1.pay.length cA1_9] 40)).cell? ⟨w.heap.size, 8, none⟩ = some (I (d0.seq)) := by simp
      have p0_9 : ((w.alloc (.cells #[I (d0.kind), I (d0.src), I (d0.dst), .slice A0_3 d0.path.length cA0_3, I (d0.pidx), I (d0.hidx), I (d0.beta), I (d0.rid), I (d0.seq), .slice A0_9 d0.pay.length cA0_9] 40)).alloc (.cells #[I (d1.kind), I (d1.src), I (d1.dst), .slice A1_3 d1.path.length cA1_3, I (d1.pidx), I (d1.hidx), I (d1.beta), I (d1.rid), I (d1.seq), .slice A1_9 d1.pay.length cA1_9] 40)).cell? ⟨w.heap.size, 9, none⟩ = some (.slice A0_9 d0.pay.length cA0_9) := by simp
      have p1_0 : ((w.alloc (.cells #[I (d0.kind), I (d0.src), I (d0.dst), .slice A0_3 d0.path.length cA0_3, I (d0.pidx), I (d0.hidx), I (d0.beta), I (d0.rid), I (d0.seq), .slice A0_9 d0.pay.length cA0_9] 40)).alloc (.cells #[I (d1.kind), I (d1.src), I (d1.dst), .slice A1_3 d1.path.length cA1_3, I (d1.pidx), I (d1.hidx), I (d1.beta), I (d1.rid), I (d1.seq), .slice A1_9 d1.pay.length cA1_9] 40)).cell? ⟨w.heap.size + 1, 0, none⟩ = some (I (d1.kind)) := by simp
      have p1_1 : ((w.alloc (.cells #[I (d0.kind), I (d0.src), I (d0.dst), .slice A0_3 d0.path.length cA0_3, I (d0.pidx), I (d0.hidx), I (d0.beta), I (d0.rid), I (d0.seq), .slice A0_9 d0.pay.length cA0_9] 40)).alloc (.cells #[I (d1.kind), I (d1.src), I (d1.dst), .slice A1_3 d1.path.length cA1_3, I (d1.pidx), I (d1.hidx), I (d1.beta), I (d1.rid), I (d1.seq), .slice A1_9 d1.pay.length cA1_9] 40)).cell? ⟨w.heap.size + 1, 1, none⟩ = some (I (d1.src)) := by simp
      have p1_2 : ((w.alloc (.cells #[I (d0.kind), I (d0.src), I (d0.dst), .slice A0_3 d0.path.length cA0_3, I (d0.pidx), I (d0.hidx), I (d0.beta), I (d0.rid), I (d0.seq), .slice A0_9 d0.pay.length cA0_9] 40)).alloc (.cells #[I (d1.kind), I (d1.src), I (d1.dst), .slice A1_3 d1.path.length cA1_3, I (d1.pidx), I (d1.hidx), I (d1.beta), I (d1.rid), I (d1.seq), .slice A1_9 d1.pay.length cA1_9] 40)).cell? ⟨w.heap.size + 1, 2, none⟩ = some (I (d1.dst)) := by simp
      have p1_3 : ((w.alloc (.cells #[I (d0.kind), I (d0.src), I (d0.dst), .slice A0_3 d0.path.length cA0_3, I (d0.pidx), I (d0.hidx), I (d0.beta), I (d0.rid), I (d0.seq), .slice A0_9 d0.pay.length cA0_9] 40)).alloc (.cells #[I (d1.kind), I (d1.src), I (d1.dst), .slice A1_3 d1.path.length cA1_3, I (d1.pidx), I (d1.hidx), I (d1.beta), I (d1.rid), I (d1.seq), .slice A1_9 d1.pay.length cA1_9] 40)).cell? ⟨w.heap.size + 1, 3, none⟩ = some (.slice A1_3 d1.path.length cA1_3) := by simp
      have p1_4 : ((w.alloc (.cells #[I (d0.kind), I (d0.src), I (d0.dst), .slice A0_3 d0.path.length cA0_3, I (d0.pidx), I (d0.hidx), I (d0.beta), I (d0.rid), I (d0.seq), .slice A0_9 d0.pay.length cA0_9] 40)).alloc (.cells #[I (d1.kind), I (d1.src), I (d1.dst), .slice A1_3 d1.path.length cA1_3, I (d1.pidx), I (d1.hidx), I (d1.beta), I (d1.rid), I (d1.seq), .slice A1_9 d1.pay.length cA1_9] 40)).cell? ⟨w.heap.size + 1, 4, none⟩ = some (I (d1.pidx)) := by simp
      have p1_5 : ((w.alloc (.cells #[I (d0.kind), I (d0.src), I (d0.dst), .slice A0_3 d0.path.length cA0_3, I (d0.pidx), I (d0.hidx), I (d0.beta), I (d0.rid), I (d0.seq), .slice A0_9 d0.pay.length cA0_9] 40)).alloc (.cells #[I (d1.kind), I (d1.src), I (d1.dst), .slice A1_3 d1.path.length cA1_3, I (d1.pidx), I (d1.hidx), I (d1.beta), I (d1.rid), I (d1.seq), .slice A1_9 d1.pay.length cA1_9] 40)).cell? ⟨w.heap.size + 1, 5, none⟩ = some (I (d1.hidx)) := by simp
      have p1_6 : ((w.alloc (.cells #[I (d0.kind), I (d0.src), I (d0.dst), .slice A0_3 d0.path.length cA0_3, I (d0.pidx), I (d0.hidx), I (d0.beta), I (d0.rid), I (d0.seq), .slice A0_9 d0.pay.length cA0_9] 40)).alloc (.cells #[I (d1.kind), I (d1.src), I (d1.dst), .slice A1_3 d1.path.length cA1_3, I (d1.pidx), I (d1.hidx), I (d1.beta), I (d1.rid), I (d1.seq), .slice A1_9 d1.pay.length cA1_9] 40)).cell? ⟨w.heap.size + 1, 6, none⟩ = some (I (d1.beta)) := by simp
      have p1_7 : ((w.alloc (.cells #[I (d0.kind), I (d0.src), I (d0.dst), .slice A0_3 d0.path.length cA0_3, I (d0.pidx), I (d0.hidx), I (d0.beta), I (d0.rid), I (d0.seq), .slice A0_9 d0.pay.length cA0_9] 40)).alloc (.cells #[I (d1.kind), I (d1.src), I (d1.dst), .slice A1_3 d1.path.length cA1_3, I (d1.pidx), I (d1.hidx), I (d1.beta), I (d1.rid), I (d1.seq), .slice A1_9 d1.pay.length cA1_9] 40)).cell? ⟨w.heap.size + 1, 7, none⟩ = some (I (d1.rid)) := by simp
      have p1_8 : ((w.alloc (.cells #[I (d0.kind), I (d0.src), I (d0.dst), .slice A0_3 d0.path.length cA0_3, I (d0.pidx), I (d0.hidx), I (d0.beta), I (d0.rid), I (d0.seq), .slice A0_9 d0.pay.length cA0_9] 40)).alloc (.cells #[I (d1.kind), I (d1.src), I (d1.dst), .slice A1_3 d1.path.length cA1_3, I (d1.pidx), I (d1.hidx), I (d1.beta), I (d1.rid), I (d1.seq), .slice A1_9 d1.pay.length cA1_9] 40)).cell? ⟨w.heap.size + 1, 8, none⟩ = some (I (d1.seq)) := by simp
      have p1_9 : ((w.alloc (.cells #[I (d0.kind), I (d0.src), I (d0.dst), .slice A0_3 d0.path.length cA0_3, I (d0.pidx), I (d0.hidx), I (d0.beta), I (d0.rid), I (d0.seq), .slice A0_9 d0.pay.length cA0_9] 40)).alloc (.cells #[I (d1.kind), I (d1.src), I (d1.dst), .slice A1_3 d1.path.length cA1_3, I (d1.pidx), I (d1.hidx), I (d1.beta), I (d1.rid), I (d1.seq), .slice A1_9 d1.pay.length cA1_9] 40)).cell? ⟨w.heap.size + 1, 9, none⟩ = some (.slice A1_9 d1.pay.length cA1_9) := by simp
      go_wp2_with (fail)
      refine (szc_pkt d0 _ (1048576) _ (pktT.kp h0 x0) (by omega) (by omega) l0).mono ?_
      rintro e w1 ⟨rfl, hb1⟩
      rw [szI_yes (by omega)]
      have p0_0' := ck hb1 p0_0
      have p0_1' := ck hb1 p0_1
      have p0_2' := ck hb1 p0_2
      have p0_3' := ck hb1 p0_3
      have p0_4' := ck hb1 p0_4
      have p0_5' := ck hb1 p0_5
      have p0_6' := ck hb1 p0_6
      have p0_7' := ck hb1 p0_7
      have p0_8' := ck hb1 p0_8
      have p0_9' := ck hb1 p0_9
      have p1_0' := ck hb1 p1_0
      have p1_1' := ck hb1 p1_1
      have p1_2' := ck hb1 p1_2
      have p1_3' := ck hb1 p1_3
      have p1_4' := ck hb1 p1_4
      have p1_5' := ck hb1 p1_5
      have p1_6' := ck hb1 p1_6
      have p1_7' := ck hb1 p1_7
      have p1_8' := ck hb1 p1_8
      have p1_9' := ck hb1 p1_9
      have x_1 := ext_trans x0 hb1
      clear p0_0 p0_1 p0_2 p0_3 p0_4 p0_5 p0_6 p0_7 p0_8 p0_9 p1_0 p1_1 p1_2 p1_3 p1_4 p1_5 p1_6 p1_7 p1_8 p1_9
      go_wp2_with (fail)
      refine (szc_pkt d1 _ (1048576 - sz_pkt d0) _ (pktT.kp h1 x_1) (by omega) (by omega) l1).mono ?_
      rintro e w2 ⟨rfl, hb2⟩
      rw [szI_no (by omega)]
      have p0_0'' := ck hb2 p0_0'
      have p0_1'' := ck hb2 p0_1'
      have p0_2'' := ck hb2 p0_2'
      have p0_3'' := ck hb2 p0_3'
      have p0_4'' := ck hb2 p0_4'
      have p0_5'' := ck hb2 p0_5'
      have p0_6'' := ck hb2 p0_6'
      have p0_7'' := ck hb2 p0_7'
      have p0_8'' := ck hb2 p0_8'
      have p0_9'' := ck hb2 p0_9'
      have p1_0'' := ck hb2 p1_0'
      have p1_1'' := ck hb2 p1_1'
      have p1_2'' := ck hb2 p1_2'
      have p1_3'' := ck hb2 p1_3'
      have p1_4'' := ck hb2 p1_4'
      have p1_5'' := ck hb2 p1_5'
      have p1_6'' := ck hb2 p1_6'
      have p1_7'' := ck hb2 p1_7'
      have p1_8'' := ck hb2 p1_8'
      have p1_9'' := ck hb2 p1_9'
      have x_2 := ext_trans x_1 hb2
      clear p0_0' p0_1' p0_2' p0_3' p0_4' p0_5' p0_6' p0_7' p0_8' p0_9' p1_0' p1_1' p1_2' p1_3' p1_4' p1_5' p1_6' p1_7' p1_8' p1_9'
      go_wp2_with (fail)
      go_ret
      exact ⟨rfl, x_2⟩
  ·
    go_enter Try.func10, Try.ntmps10
    have p0_0 : ((w.alloc (.cells #[I (d0.kind), I (d0.src), I (d0.dst), .slice A0_3 d0.path.length cA0_3, I (d0.pidx), I (d0.hidx), I (d0.beta), I (d0.rid), I (d0.seq), .slice A0_9 d0.pay.length cA0_9] 40)).alloc (.cells #[I (d1.kind), I (d1.src), I (d1.dst), .slice A1_3 d1.path.length cA1_3, I (d1.pidx), I (d1.hidx), I (d1.beta), I (d1.rid), I (d1.seq), .slice A1_9 d1.pay.length cA1_9] 40)).cell? ⟨w.heap.size, 0, none⟩ = some (I (d0.kind)) := by simp
    have p0_1 : ((w.alloc (.cells #[I (d0.kind), I (d0.src), I (d0.dst), .slice A0_3 d0.path.length cA0_3, I (d0.pidx), I (d0.hidx), I (d0.beta), I (d0.rid), I (d0.seq), .slice A0_9 d0.pay.length cA0_9] 40)).alloc (.cells #[I (d1.kind), I (d1.src), I (d1.dst), .slice A1_3 d1.path.length cA1_3, I (d1.pidx), I (d1.hidx), I (d1.beta), I (d1.rid), I (d1.seq), .slice A1_9 d1.pay.length cA1_9] 40)).cell? ⟨w.heap.size, 1, none⟩ = some (I (d0.src)) := by simp
    have p0_2 : ((w.alloc (.cells #[I (d0.kind), I (d0.src), I (d0.dst), .slice A0_3 d0.path.length cA0_3, I (d0.pidx), I (d0.hidx), I (d0.beta), I (d0.rid), I (d0.seq), .slice A0_9 d0.pay.length cA0_9] 40)).alloc (.cells #[I (d1.kind), I (d1.src), I (d1.dst), .slice A1_3 d1.path.length cA1_3, I (d1.pidx), I (d1.hidx), I (d1.beta), I (d1.rid), I (d1.seq), .slice A1_9 d1.pay.length cA1_9] 40)).cell? ⟨w.heap.size, 2, none⟩ = some (I (d0.dst)) := by simp
    have p0_3 : ((w.alloc (.cells #[I (d0.kind), I (d0.src), I (d0.dst), .slice A0_3 d0.path.length cA0_3, I (d0.pidx), I (d0.hidx), I (d0.beta), I (d0.rid), I (d0.seq), .slice A0_9 d0.pay.length cA0_9] 40)).alloc (.cells #[I (d1.kind), I (d1.src), I (d1.dst), .slice A1_3 d1.path.length cA1_3, I (d1.pidx), I (d1.hidx), I (d1.beta), I (d1.rid), I (d1.seq), .slice A1_9 d1.pay.length cA1_9] 40)).cell? ⟨w.heap.size, 3, none⟩ = some (.slice A0_3 d0.path.length cA0_3) := by simp
    have p0_4 : ((w.alloc (.cells #[I (d0.kind), I (d0.src), I (d0.dst), .slice A0_3 d0.path.length cA0_3, I (d0.pidx), I (d0.hidx), I (d0.beta), I (d0.rid), I (d0.seq), .slice A0_9 d0.pay.length cA0_9] 40)).alloc (.cells #[I (d1.kind), I (d1.src), I (d1.dst), .slice A1_3 d1.path.length cA1_3, I (d1.pidx), I (d1.hidx), I (d1.beta), I (d1.rid), I (d1.seq), .slice A1_9 d1.pay.length cA1_9] 40)).cell? ⟨w.heap.size, 4, none⟩ = some (I (d0.pidx)) := by simp
    have p0_5 : ((w.alloc (.cells #[I (d0.kind), I (d0.src), I (d0.dst), .slice A0_3 d0.path.length cA0_3, I (d0.pidx), I (d0.hidx), I (d0.beta), I (d0.rid), I (d0.seq), .slice A0_9 d0.pay.length cA0_9] 40)).alloc (.cells #[I (d1.kind), I (d1.src), I (d1.dst), .slice A1_3 d1.path.length cA1_3, I (d1.pidx), I (d1.hidx), I (d1.beta), I (d1.rid), I (d1.seq), .slice A1_9 d1.pay.length cA1_9] 40)).cell? ⟨w.heap.size, 5, none⟩ = some (I (d0.hidx)) := by simp
    have p0_6 : ((w.alloc (.cells #[I (d0.kind), I (d0.src), I (d0.dst), .slice A0_3 d0.path.length cA0_3, I (d0.pidx), I (d0.hidx), I (d0.beta), I (d0.rid), I (d0.seq), .slice A0_9 d0.pay.length cA0_9] 40)).alloc (.cells #[I (d1.kind), I (d1.src), I (d1.dst), .slice A1_3 d1.path.length cA1_3, I (d1.pidx), I (d1.hidx), I (d1.beta), I (d1.rid), I (d1.seq), .slice A1_9 d1.pay.length cA1_9] 40)).cell? ⟨w.heap.size, 6, none⟩ = some (I (d0.beta)) := by simp
    have p0_7 : ((w.alloc (.cells #[I (d0.kind), I (d0.src), I (d0.dst), .slice A0_3 d0.path.length cA0_3, I (d0.pidx), I (d0.hidx), I (d0.beta), I (d0.rid), I (d0.seq), .slice A0_9 d0.pay.length cA0_9] 40)).alloc (.cells #[I (d1.kind), I (d1.src), I (d1.dst), .slice A1_3 d1.path.length cA1_3, I (d1.pidx), I (d1.hidx), I (d1.beta), I (d1.rid), I (d1.seq), .slice A1_9 d1.pay.length cA1_9] 40)).cell? ⟨w.heap.size, 7, none⟩ = some (I (d0.rid)) := by simp
    have p0_8 : ((w.alloc (.cells #[I (d0.kind), I (d0.src), I (d0.dst), .slice A0_3 d0.path.length cA0_3, I (d0.pidx), I (d0.hidx), I (d0.beta), I (d0.rid), I (d0.seq), .slice A0_9 d0.pay.length cA0_9] 40)).alloc (.cells #[I (d1.kind), I (d1.src), I (d1.dst), .slice A1_3 d1.path.length cA1_3, I (d1.pidx), I (d1.hidx), I (d1.beta), I (d1.rid), I (d1.seq), .slice A1_9 d1.pay.length cA1_9] 40)).cell? ⟨w.heap.size, 8, none⟩ = some (I (d0.seq)) := by simp
    have p0_9 : ((w.alloc (.cells #[I (d0.kind), I (d0.src), I (d0.dst), .slice A0_3 d0.path.length cA0_3, I (d0.pidx), I (d0.hidx), I (d0.beta), I (d0.rid), I (d0.seq), .slice A0_9 d0.pay.length cA0_9] 40)).alloc (.cells #[I (d1.kind), I (d1.src), I (d1.dst), .slice A1_3 d1.path.length cA1_3, I (d1.pidx), I (d1.hidx), I (d1.beta), I (d1.rid), I (d1.seq), .slice A1_9 d1.pay.length cA1_9] 40)).cell? ⟨w.heap.size, 9, none⟩ = some (.slice A0_9 d0.pay.length cA0_9) := by simp
    have p1_0 : ((w.alloc (.cells #[I (d0.kind), I (d0.src), I (d0.dst), .slice A0_3 d0.path.length cA0_3, I (d0.pidx), I (d0.hidx), I (d0.beta), I (d0.rid), I (d0.seq), .slice A0_9 d0.pay.length cA0_9] 40)).alloc (.cells #[I (d1.kind), I (d1.src), I (d1.dst), .slice A1_3 d1.path.length cA1_3, I (d1.pidx), I (d1.hidx), I (d1.beta), I (d1.rid), I (d1.seq), .slice A1_9 d1.pay.length cA1_9] 40)).cell? ⟨w.heap.size + 1, 0, none⟩ = some (I (d1.kind)) := by simp
    have p1_1 : ((w.alloc (.cells #[I (d0.kind), I (d0.src), I (d0.dst), .slice A0_3 d0.path.length cA0_3, I (d0.pidx), I (d0.hidx), I (d0.beta), I (d0.rid), I (d0.seq), .slice A0_9 d0.pay.length cA0_9] 40)).alloc (.cells #[I (d1.kind), I (d1.src), I (d1.dst), .slice A1_3 d1.path.length cA1_3, I (d1.pidx), I (d1.hidx), I (d1.beta), I (d1.rid), I (d1.seq), .slice A1_9 d1.pay.length cA1_9] 40)).cell? ⟨w.heap.size + 1, 1, none⟩ = some (I (d1.src)) := by simp
    have p1_2 : ((w.alloc (.cells #[I (d0.kind), I (d0.src), I (d0.dst), .slice A0_3 d0.path.length cA0_3, I (d0.pidx), I (d0.hidx), I (d0.beta), I (d0.rid), I (d0.seq), .slice A0_9 d0.pay.length cA0_9] 40)).alloc (.cells #[I (d1.kind), I (d1.src), I (d1.dst), .slice A1_3 d1.path.length cA1_3, I (d1.pidx), I (d1.hidx), I (d1.beta), I (d1.rid), I (d1.seq), .slice A1_9 d1.pay.length cA1_9] 40)).cell? ⟨w.heap.size + 1, 2, none⟩ = some (I (d1.dst)) := by simp
    have p1_3 : ((w.alloc (.cells #[I (d0.kind), I (d0.src), I (d0.dst), .slice A0_3 d0.path.length cA0_3, I (d0.pidx), I (d0.hidx), I (d0.beta), I (d0.rid), I (d0.seq), .slice A0_9 d0.pay.length cA0_9] 40)).alloc (.cells #[I (d1.kind), I (d1.src), I (d1.dst), .slice A1_3 d1.path.length cA1_3, I (d1.pidx), I (d1.hidx), I (d1.beta), I (d1.rid), I (d1.seq), .slice A1_9 d1.pay.length cA1_9] 40)).cell? ⟨w.heap.size + 1, 3, none⟩ = some (.slice A1_3 d1.path.length cA1_3) := by simp
    have p1_4 : ((w.alloc (.cells #[I (d0.kind), I (d0.src), I (d0.dst), .slice A0_3 d0.path.length cA0_3, I (d0.pidx), I (d0.hidx), I (d0.beta), I (d0.rid), I (d0.seq), .slice A0_9 d0.pay.length cA0_9] 40)).alloc (.cells #[I (d1.kind), I (d1.src), I (d1.dst), .slice A1_3 d1.path.length cA1_3, I (d1.pidx), I (d1.hidx), I (d1.beta), I (d1.rid), I (d1.seq), .slice A1_9 d1.pay.length cA1_9] 40)).cell? ⟨w.heap.size + 1, 4, none⟩ = some (I (d1.pidx)) := by simp
    have p1_5 : ((w.alloc (.cells #[I (d0.kind), I (d0.src), I (d0.dst), .slice A0_3 d0.path.length cA0_3, I (d0.pidx), I (d0.hidx), I (d0.beta), I (d0.rid), I (d0.seq), .slice A0_9 d0.pay.length cA0_9] 40)).alloc (.cells #[I (d1.kind), I (d1.src), I (d1.dst), .slice A1_3 d1.path.length cA1_3, I (d1.pidx), I (d1.hidx), I (d1.beta), I (d1.rid), I (d1.seq), .slice A1_9 d1.pay.length cA1_9] 40)).cell? ⟨w.heap.size + 1, 5, none⟩ = some (I (d1.hidx)) := by simp
    have p1_6 : ((w.alloc (.cells #[I (d0.kind), I (d0.src), I (d0.dst), .slice A0_3 d0.path.length cA0_3, I (d0.pidx), I (d0.hidx), I (d0.beta), I (d0.rid), I (d0.seq), .slice A0_9 d0.pay.length cA0_9] 40)).alloc (.cells #[I (d1.kind), I (d1.src), I (d1.dst), .slice A1_3 d1.path.length cA1_3, I (d1.pidx), I (d1.hidx), I (d1.beta), I (d1.rid), I (d1.seq), .slice A1_9 d1.pay.length cA1_9] 40)).cell? ⟨w.heap.size + 1, 6, none⟩ = some (I (d1.beta)) := by simp
    have p1_7 : ((w.alloc (.cells #[I (d0.kind), I (d0.src), I (d0.dst), .slice A0_3 d0.path.length cA0_3, I (d0.pidx), I (d0.hidx), I (d0.beta), I (d0.rid), I (d0.seq), .slice A0_9 d0.pay.length cA0_9] 40)).alloc (.cells #[I (d1.kind), I (d1.src), I (d1.dst), .slice A1_3 d1.path.length cA1_3, I (d1.pidx), I (d1.hidx), I (d1.beta), I (d1.rid), I (d1.seq), .slice A1_9 d1.pay.length cA1_9] 40)).cell? ⟨w.heap.size + 1, 7, none⟩ = some (I (d1.rid)) := by simp
    have p1_8 : ((w.alloc (.cells #[I (d0.kind), I (d0.src), I (d0.dst), .slice A0_3 d0.path.length cA0_3, I (d0.pidx), I (d0.hidx), I (d0.beta), I (d0.rid), I (d0.seq), .slice A0_9 d0.pay.length cA0_9] 40)).alloc (.cells #[I (d1.kind), I (d1.src), I (d1.dst), .slice A1_3 d1.path.length cA1_3, I (d1.pidx), I (d1.hidx), I (d1.beta), I (d1.rid), I (d1.seq), .slice A1_9 d1.pay.length cA1_9] 40)).cell? ⟨w.heap.size + 1, 8, none⟩ = some (I (d1.seq)) := by simp
    have p1_9 : ((w.alloc (.cells #[I (d0.kind), I (d0.src), I (d0.dst), .slice A0_3 d0.path.length cA0_3, I (d0.pidx), I (d0.hidx), I (d0.beta), I (d0.rid), I (d0.seq), .slice A0_9 d0.pay.length cA0_9] 40)).alloc (.cells #[I (d1.kind), I (d1.src), I (d1.dst), .slice A1_3 d1.path.length cA1_3, I (d1.pidx), I (d1.hidx), I (d1.beta), I (d1.rid), I (d1.seq), .slice A1_9 d1.pay.length cA1_9] 40)).cell? ⟨w.heap.size + 1, 9, none⟩ = some (.slice A1_9 d1.pay.length cA1_9) := by simp
    go_wp2_with (fail)
    refine (szc_pkt d0 _ (1048576) _ (pktT.kp h0 x0) (by omega) (by omega) l0).mono ?_
    rintro e w1 ⟨rfl, hb1⟩
    rw [szI_no (by omega)]
    have p0_0' := ck hb1 p0_0
    have p0_1' := ck hb1 p0_1
    have p0_2' := ck hb1 p0_2
    have p0_3' := ck hb1 p0_3
    have p0_4' := ck hb1 p0_4
    have p0_5' := ck hb1 p0_5
    have p0_6' := ck hb1 p0_6
    have p0_7' := ck hb1 p0_7
    have p0_8' := ck hb1 p0_8
    have p0_9' := ck hb1 p0_9
    have p1_0' := ck hb1 p1_0
    have p1_1' := ck hb1 p1_1
    have p1_2' := ck hb1 p1_2
    have p1_3' := ck hb1 p1_3
    have p1_4' := ck hb1 p1_4
    have p1_5' := ck hb1 p1_5
    have p1_6' := ck hb1 p1_6
    have p1_7' := ck hb1 p1_7
    have p1_8' := ck hb1 p1_8
    have p1_9' := ck hb1 p1_9
    have x_1 := ext_trans x0 hb1
    clear p0_0 p0_1 p0_2 p0_3 p0_4 p0_5 p0_6 p0_7 p0_8 p0_9 p1_0 p1_1 p1_2 p1_3 p1_4 p1_5 p1_6 p1_7 p1_8 p1_9
    go_wp2_with (fail)
    go_ret
    exact ⟨rfl, x_1⟩

namespace fnExactEqualPackets
open Go.ChangeShapes Go.WideShapes Go.ChangeAt

set_option maxRecDepth 100000 in
theorem lifted (os : Os) (started : os.Started) (H : Type) (enc : TypeId × Value → H) :
    ReturnsInHanded {} Try.checked os 10 .any (Rows.fnExactEqualPacketsSpec.pre6 enc Try.prog Try.f10 Rows.fnExactEqualPacketsRow.domain false) (Rows.fnExactEqualPacketsSpec.post enc Try.prog Try.f10 false true false false) := by
  refine returnsInHanded_of_change (C := Try.checked) knob started (by kernel_rfl) Try.func10
    (ChangeSpec.witness6 (enc := enc) (C := Try.checked) false ⟨#[], #[.agg #[I 0, I 0, I 0, .slice none 0 0, I 0, I 0, I 0, I 0, I 0, .slice none 0 0], .agg #[I 0, I 0, I 0, .slice none 0 0, I 0, I 0, I 0, I 0, I 0, .slice none 0 0]], []⟩ 8 (by kernel_rfl) (by kernel_rfl) (by kernel_rfl) (by kernel_rfl)) ?_
  intro W base args ds gs before hval0 hW hcnd _
  have hval : ∀ (j : Nat) t v, Try.f10.params[j]? = some t → args[j]? = some v → Value.okWide Try.prog W .any base t v := hval0
  have hW' := hW
  obtain ⟨p, q, hA0, hV, rfl, hfz, hnd⟩ := hW
  have hA : DataW.TrodAll enc Try.prog W 0 (fun _ => true) true Try.f10.params.toList args.toList ds p := hA0
  rw [Try.params10] at hA hval
  obtain ⟨v0, vs0, d0, ds0, p0, q0, hargs, rfl, rfl, h0, r0⟩ := trodAll_cons hA
  obtain ⟨v1, vs1, d1, ds1, p1, q1, rfl, rfl, rfl, h1, r1⟩ := trodAll_cons r0
  obtain ⟨rfl, rfl, rfl⟩ := trodAll_nil r1
  obtain rfl : args = #[v0, v1] := by cases args; simp_all
  obtain ⟨rfl, rfl⟩ := trodVars_none hV
  have k0 := h0
  have lt0 : ∀ x ∈ p0, x.block < W.heap.size := by obtain ⟨m, hm⟩ := k0; exact DataW.trod_lt m _ _ _ hm
  obtain ⟨cs0, x0, rfl, R0, L0, G0⟩ := open_pkt (hval 0 40 v0 rfl rfl) h0
  have k1 := h1
  have lt1 : ∀ x ∈ p1, x.block < W.heap.size := by obtain ⟨m, hm⟩ := k1; exact DataW.trod_lt m _ _ _ hm
  obtain ⟨cs1, x1, rfl, R1, L1, G1⟩ := open_pkt (hval 1 40 v1 rfl rfl) h1
  clear hA0 hval0
  refine (lawEqualPackets x0 _ x1 _ W R0 L0 G0 R1 L1 G1).mono fun e W' ⟨he, bel⟩ => ?_
  subst he
  exact ⟨_, rfl, _, _, _, [], _, [], hW', trodAll_mk1 (shut_bool Try.underlying4 _), (trodAll_cons_mk (Below.trod laidOut (by kernel_rfl) (of_decide_eq_true (by kernel_rfl)) k0 bel lt0) (trodAll_cons_mk (Below.trod laidOut (by kernel_rfl) (of_decide_eq_true (by kernel_rfl)) k1 bel lt1) trodAll_mk0)), rfl, bel.frame _, fun h => by cases h⟩

theorem over : Rows.fnExactEqualPacketsRow.holds Try.pinned (OpenSpec.ofChange Rows.fnExactEqualPacketsSpec) :=
  OpenClaim.holds_of_wide 10 Try.f10 rfl rfl rfl rfl rfl rfl rfl ⟨rfl, rfl, rfl, rfl, rfl⟩ rfl rfl rfl rfl rfl (by kernel_rfl) Try.func10 (by kernel_rfl)
    (of_decide_eq_true (by kernel_rfl)) (by unfold Func.isWrapper; first | (rw [if_pos (by decide +kernel)]; kernel_rfl) | (rw [if_neg (by decide +kernel)]; exact ⟨rfl, rfl⟩))
    (fun os started H enc _ => lifted os started H enc)

theorem proved : Rows.FnExactEqualPacketsSaid := over
#print axioms proved
end fnExactEqualPackets
end Go.Proofs.Ytailmflghbdglaa
