/- laws.FnExactValidPacket returns true, for all arguments: the walk of the law out of contracts, and the row. No condition. (Printed by lawgen.py.) -/
import Derived.Test.YtailmflghbdglaaValidPacket
import Derived.Test.YtailmflghbdglaaFamPkt
import Derived.Test.YtailmflghbdglaaOpenPkt
import Derived.Test.YtailmflghbdglaaOpen
import Derived.Deep.RegionHeld3
namespace Go.Proofs.Ytailmflghbdglaa
open Go.RowKit
set_option linter.unusedVariables false

set_option maxHeartbeats 2000000 in
set_option maxRecDepth 100000 in
theorem lawValidPacket (d0 : Pkt) (cs0 : List Value) (w : World) (h0 : pktT.R w cs0 d0) (l0 : lenOk_pkt d0) (g0 : rng_pkt d0) :
    Calls Try.prog 14 #[.agg cs0.toArray] w fun r w' => r = .returned (.bool true) ∧ Below w.heap.size w w' := by
  obtain ⟨A0_3, cA0_3, A0_9, cA0_9, rfl, _⟩ := pkt_form h0
  have G0 := hid g0
  clear g0
  have x0 : Below w.heap.size w (w.alloc (.cells #[I (d0.kind), I (d0.src), I (d0.dst), .slice A0_3 d0.path.length cA0_3, I (d0.pidx), I (d0.hidx), I (d0.beta), I (d0.rid), I (d0.seq), .slice A0_9 d0.pay.length cA0_9] 40)) := by repeat (first | refine ext_alloc ?_ _ | exact Below.refl _ _)
  by_cases z0 : (sz_pkt d0 : Int) ≤ 1048576
  · have y0 : ¬ 1048576 - (sz_pkt d0 : Int) < 0 := by omega
    go_enter Try.func14, Try.ntmps14
    have p0_0 : (w.alloc (.cells #[I (d0.kind), I (d0.src), I (d0.dst), .slice A0_3 d0.path.length cA0_3, I (d0.pidx), I (d0.hidx), I (d0.beta), I (d0.rid), I (d0.seq), .slice A0_9 d0.pay.length cA0_9] 40)).cell? ⟨w.heap.size, 0, none⟩ = some (I (d0.kind)) := by simp
    have p0_1 : (w.alloc (.cells #[I (d0.kind), I (d0.src), I (d0.dst), .slice A0_3 d0.path.length cA0_3, I (d0.pidx), I (d0.hidx), I (d0.beta), I (d0.rid), I (d0.seq), .slice A0_9 d0.pay.length cA0_9] 40)).cell? ⟨w.heap.size, 1, none⟩ = some (I (d0.src)) := by simp
    have p0_2 : (w.alloc (.cells #[I (d0.kind), I (d0.src), I (d0.dst), .slice A0_3 d0.path.length cA0_3, I (d0.pidx), I (d0.hidx), I (d0.beta), I (d0.rid), I (d0.seq), .slice A0_9 d0.pay.length cA0_9] 40)).cell? ⟨w.heap.size, 2, none⟩ = some (I (d0.dst)) := by simp
    have p0_3 : (w.alloc (.cells #[I (d0.kind), I (d0.src), I (d0.dst), .slice A0_3 d0.path.length cA0_3, I (d0.pidx), I (d0.hidx), I (d0.beta), I (d0.rid), I (d0.seq), .slice A0_9 d0.pay.length cA0_9] 40)).cell? ⟨w.heap.size, 3, none⟩ = some (.slice A0_3 d0.path.length cA0_3) := by simp
    have p0_4 : (w.alloc (.cells #[I (d0.kind), I (d0.src), I (d0.dst), .slice A0_3 d0.path.length cA0_3, I (d0.pidx), I (d0.hidx), I (d0.beta), I (d0.rid), I (d0.seq), .slice A0_9 d0.pay.length cA0_9] 40)).cell? ⟨w.heap.size, 4, none⟩ = some (I (d0.pidx)) := by simp
    have p0_5 : (w.alloc (.cells #[I (d0.kind), I (d0.src), I (d0.dst), .slice A0_3 d0.path.length cA0_3, I (d0.pidx), I (d0.hidx), I (d0.beta), I (d0.rid), I (d0.seq), .slice A0_9 d0.pay.length cA0_9] 40)).cell? ⟨w.heap.size, 5, none⟩ = some (I (d0.hidx)) := by simp
    have p0_6 : (w.alloc (.cells #[I (d0.kind), I (d0.src), I (d0.dst), .slice A0_3 d0.path.length cA0_3, I (d0.pidx), I (d0.hidx), I (d0.beta), I (d0.rid), I (d0.seq), .slice A0_9 d0.pay.length cA0_9] 40)).cell? ⟨w.heap.size, 6, none⟩ = some (I (d0.beta)) := by simp
    have p0_7 : (w.alloc (.cells #[I (d0.kind), I (d0.src), I (d0.dst), .slice A0_3 d0.path.length cA0_3, I (d0.pidx), I (d0.hidx), I (d0.beta), I (d0.rid), I (d0.seq), .slice A0_9 d0.pay.length cA0_9] 40)).cell? ⟨w.heap.size, 7, none⟩ = some (I (d0.rid)) := by simp
    have p0_8 : (w.alloc (.cells #[I (d0.kind), I (d0.src), I (d0.dst), .slice A0_3 d0.path.length cA0_3, I (d0.pidx), I (d0.hidx), I (d0.beta), I (d0.rid), I (d0.seq), .slice A0_9 d0.pay.length cA0_9] 40)).cell? ⟨w.heap.size, 8, none⟩ = some (I (d0.seq)) := by simp
    have p0_9 : (w.alloc (.cells #[I (d0.kind), I (d0.src), I (d0.dst), .slice A0_3 d0.path.length cA0_3, I (d0.pidx), I (d0.hidx), I (d0.beta), I (d0.rid), I (d0.seq), .slice A0_9 d0.pay.length cA0_9] 40)).cell? ⟨w.heap.size, 9, none⟩ = some (.slice A0_9 d0.pay.length cA0_9) := by simp
    go_wp2_with (fail)
    refine (szc_pkt d0 _ (1048576) _ (pktT.kp h0 x0) (by omega) (by omega) l0).mono ?_
    rintro e w1 ⟨rfl, hb1⟩
    rw [szI_yes (by omega)]
    have p0_0' := ck hb1 p0_0
    have p0_1' := ck hb1 p0_1
    have p0_2' := ck hb1 p0_2
    have p0_3' := ck hb1 p0_3
    have p0_4' := ck hb1 p0_4
    have p0_5' := ck hb1 p0_5
    have p0_6' := ck hb1 p0_6
    have p0_7' := ck hb1 p0_7
    have p0_8' := ck hb1 p0_8
    have p0_9' := ck hb1 p0_9
    have x_1 := ext_trans x0 hb1
    clear p0_0 p0_1 p0_2 p0_3 p0_4 p0_5 p0_6 p0_7 p0_8 p0_9
    have sz0 : sz_pkt d0 ≤ 1048576 := by omega
    go_wp2_with (fail)
    refine (to_pkt d0 _ _ (pktT.kp h0 (x_1)) sz0).mono ?_
    rintro e w2 ⟨cq2, fq2, rfl, hQ2, hb2⟩
    obtain ⟨B0_32, cB0_32, B0_92, cB0_92, fB0_32, fB0_92, rfl, _⟩ := pkt_oform hQ2
    have p0_0'' := ck hb2 p0_0'
    have p0_1'' := ck hb2 p0_1'
    have p0_2'' := ck hb2 p0_2'
    have p0_3'' := ck hb2 p0_3'
    have p0_4'' := ck hb2 p0_4'
    have p0_5'' := ck hb2 p0_5'
    have p0_6'' := ck hb2 p0_6'
    have p0_7'' := ck hb2 p0_7'
    have p0_8'' := ck hb2 p0_8'
    have p0_9'' := ck hb2 p0_9'
    have x_2 := ext_trans x_1 hb2
    clear p0_0' p0_1' p0_2' p0_3' p0_4' p0_5' p0_6' p0_7' p0_8' p0_9'
    go_wp2_with (fail)
    refine (spec_ValidPacket d0 _ _ (pktT.rd hQ2) sz0 l0 G0.out).mono ?_
    rintro e w3 ⟨rfl, hb3⟩
    have p0_0''' := ck hb3 p0_0''
    have p0_1''' := ck hb3 p0_1''
    have p0_2''' := ck hb3 p0_2''
    have p0_3''' := ck hb3 p0_3''
    have p0_4''' := ck hb3 p0_4''
    have p0_5''' := ck hb3 p0_5''
    have p0_6''' := ck hb3 p0_6''
    have p0_7''' := ck hb3 p0_7''
    have p0_8''' := ck hb3 p0_8''
    have p0_9''' := ck hb3 p0_9''
    have x_3 := ext_trans x_2 hb3
    clear p0_0'' p0_1'' p0_2'' p0_3'' p0_4'' p0_5'' p0_6'' p0_7'' p0_8'' p0_9''
    have hQ2' := pktT.obelow hQ2 hb3
    go_wp2_with (fail)
    refine (to_pkt d0 _ _ (pktT.kp h0 (x_3)) sz0).mono ?_
    rintro e w4 ⟨cq4, fq4, rfl, hQ4, hb4⟩
    obtain ⟨B0_34, cB0_34, B0_94, cB0_94, fB0_34, fB0_94, rfl, _⟩ := pkt_oform hQ4
    have p0_0'''' := ck hb4 p0_0'''
    have p0_1'''' := ck hb4 p0_1'''
    have p0_2'''' := ck hb4 p0_2'''
    have p0_3'''' := ck hb4 p0_3'''
    have p0_4'''' := ck hb4 p0_4'''
    have p0_5'''' := ck hb4 p0_5'''
    have p0_6'''' := ck hb4 p0_6'''
    have p0_7'''' := ck hb4 p0_7'''
    have p0_8'''' := ck hb4 p0_8'''
    have p0_9'''' := ck hb4 p0_9'''
    have x_4 := ext_trans x_3 hb4
    clear p0_0''' p0_1''' p0_2''' p0_3''' p0_4''' p0_5''' p0_6''' p0_7''' p0_8''' p0_9'''
    have p0_0''''' : (w4.alloc (.cells #[I (d0.kind), I (d0.src), I (d0.dst), .slice B0_34 d0.path.length cB0_34, I (d0.pidx), I (d0.hidx), I (d0.beta), I (d0.rid), I (d0.seq), .slice B0_94 d0.pay.length cB0_94] 44)).cell? ⟨w.heap.size, 0, none⟩ = some (I (d0.kind)) := ck (ext_alloc1 _ _) p0_0''''
    have p0_1''''' : (w4.alloc (.cells #[I (d0.kind), I (d0.src), I (d0.dst), .slice B0_34 d0.path.length cB0_34, I (d0.pidx), I (d0.hidx), I (d0.beta), I (d0.rid), I (d0.seq), .slice B0_94 d0.pay.length cB0_94] 44)).cell? ⟨w.heap.size, 1, none⟩ = some (I (d0.src)) := ck (ext_alloc1 _ _) p0_1''''
    have p0_2''''' : (w4.alloc (.cells #[I (d0.kind), I (d0.src), I (d0.dst), .slice B0_34 d0.path.length cB0_34, I (d0.pidx), I (d0.hidx), I (d0.beta), I (d0.rid), I (d0.seq), .slice B0_94 d0.pay.length cB0_94] 44)).cell? ⟨w.heap.size, 2, none⟩ = some (I (d0.dst)) := ck (ext_alloc1 _ _) p0_2''''
    have p0_3''''' : (w4.alloc (.cells #[I (d0.kind), I (d0.src), I (d0.dst), .slice B0_34 d0.path.length cB0_34, I (d0.pidx), I (d0.hidx), I (d0.beta), I (d0.rid), I (d0.seq), .slice B0_94 d0.pay.length cB0_94] 44)).cell? ⟨w.heap.size, 3, none⟩ = some (.slice A0_3 d0.path.length cA0_3) := ck (ext_alloc1 _ _) p0_3''''
    have p0_4''''' : (w4.alloc (.cells #[I (d0.kind), I (d0.src), I (d0.dst), .slice B0_34 d0.path.length cB0_34, I (d0.pidx), I (d0.hidx), I (d0.beta), I (d0.rid), I (d0.seq), .slice B0_94 d0.pay.length cB0_94] 44)).cell? ⟨w.heap.size, 4, none⟩ = some (I (d0.pidx)) := ck (ext_alloc1 _ _) p0_4''''
    have p0_5''''' : (w4.alloc (.cells #[I (d0.kind), I (d0.src), I (d0.dst), .slice B0_34 d0.path.length cB0_34, I (d0.pidx), I (d0.hidx), I (d0.beta), I (d0.rid), I (d0.seq), .slice B0_94 d0.pay.length cB0_94] 44)).cell? ⟨w.heap.size, 5, none⟩ = some (I (d0.hidx)) := ck (ext_alloc1 _ _) p0_5''''
    have p0_6''''' : (w4.alloc (.cells #[I (d0.kind), I (d0.src), I (d0.dst), .slice B0_34 d0.path.length cB0_34, I (d0.pidx), I (d0.hidx), I (d0.beta), I (d0.rid), I (d0.seq), .slice B0_94 d0.pay.length cB0_94] 44)).cell? ⟨w.heap.size, 6, none⟩ = some (I (d0.beta)) := ck (ext_alloc1 _ _) p0_6''''
    have p0_7''''' : (w4.alloc (.cells #[I (d0.kind), I (d0.src), I (d0.dst), .slice B0_34 d0.path.length cB0_34, I (d0.pidx), I (d0.hidx), I (d0.beta), I (d0.rid), I (d0.seq), .slice B0_94 d0.pay.length cB0_94] 44)).cell? ⟨w.heap.size, 7, none⟩ = some (I (d0.rid)) := ck (ext_alloc1 _ _) p0_7''''
    have p0_8''''' : (w4.alloc (.cells #[I (d0.kind), I (d0.src), I (d0.dst), .slice B0_34 d0.path.length cB0_34, I (d0.pidx), I (d0.hidx), I (d0.beta), I (d0.rid), I (d0.seq), .slice B0_94 d0.pay.length cB0_94] 44)).cell? ⟨w.heap.size, 8, none⟩ = some (I (d0.seq)) := ck (ext_alloc1 _ _) p0_8''''
    have p0_9''''' : (w4.alloc (.cells #[I (d0.kind), I (d0.src), I (d0.dst), .slice B0_34 d0.path.length cB0_34, I (d0.pidx), I (d0.hidx), I (d0.beta), I (d0.rid), I (d0.seq), .slice B0_94 d0.pay.length cB0_94] 44)).cell? ⟨w.heap.size, 9, none⟩ = some (.slice A0_9 d0.pay.length cA0_9) := ck (ext_alloc1 _ _) p0_9''''
    have hQ4' : pktT.O _ (w4.alloc (.cells #[I (d0.kind), I (d0.src), I (d0.dst), .slice B0_34 d0.path.length cB0_34, I (d0.pidx), I (d0.hidx), I (d0.beta), I (d0.rid), I (d0.seq), .slice B0_94 d0.pay.length cB0_94] 44)) _ _ _ := pktT.obelow hQ4 (ext_alloc1 _ _)
    clear p0_0'''' p0_1'''' p0_2'''' p0_3'''' p0_4'''' p0_5'''' p0_6'''' p0_7'''' p0_8'''' p0_9'''' hQ4
    have x_4' : Below w.heap.size w (w4.alloc (.cells #[I (d0.kind), I (d0.src), I (d0.dst), .slice B0_34 d0.path.length cB0_34, I (d0.pidx), I (d0.hidx), I (d0.beta), I (d0.rid), I (d0.seq), .slice B0_94 d0.pay.length cB0_94] 44)) := ext_alloc x_4 _
    have q0_0 : (w4.alloc (.cells #[I (d0.kind), I (d0.src), I (d0.dst), .slice B0_34 d0.path.length cB0_34, I (d0.pidx), I (d0.hidx), I (d0.beta), I (d0.rid), I (d0.seq), .slice B0_94 d0.pay.length cB0_94] 44)).cell? ⟨w4.heap.size, 0, none⟩ = some (I (d0.kind)) := by simp
    have q0_1 : (w4.alloc (.cells #[I (d0.kind), I (d0.src), I (d0.dst), .slice B0_34 d0.path.length cB0_34, I (d0.pidx), I (d0.hidx), I (d0.beta), I (d0.rid), I (d0.seq), .slice B0_94 d0.pay.length cB0_94] 44)).cell? ⟨w4.heap.size, 1, none⟩ = some (I (d0.src)) := by simp
    have q0_2 : (w4.alloc (.cells #[I (d0.kind), I (d0.src), I (d0.dst), .slice B0_34 d0.path.length cB0_34, I (d0.pidx), I (d0.hidx), I (d0.beta), I (d0.rid), I (d0.seq), .slice B0_94 d0.pay.length cB0_94] 44)).cell? ⟨w4.heap.size, 2, none⟩ = some (I (d0.dst)) := by simp
    have q0_3 : (w4.alloc (.cells #[I (d0.kind), I (d0.src), I (d0.dst), .slice B0_34 d0.path.length cB0_34, I (d0.pidx), I (d0.hidx), I (d0.beta), I (d0.rid), I (d0.seq), .slice B0_94 d0.pay.length cB0_94] 44)).cell? ⟨w4.heap.size, 3, none⟩ = some (.slice B0_34 d0.path.length cB0_34) := by simp
    have q0_4 : (w4.alloc (.cells #[I (d0.kind), I (d0.src), I (d0.dst), .slice B0_34 d0.path.length cB0_34, I (d0.pidx), I (d0.hidx), I (d0.beta), I (d0.rid), I (d0.seq), .slice B0_94 d0.pay.length cB0_94] 44)).cell? ⟨w4.heap.size, 4, none⟩ = some (I (d0.pidx)) := by simp
    have q0_5 : (w4.alloc (.cells #[I (d0.kind), I (d0.src), I (d0.dst), .slice B0_34 d0.path.length cB0_34, I (d0.pidx), I (d0.hidx), I (d0.beta), I (d0.rid), I (d0.seq), .slice B0_94 d0.pay.length cB0_94] 44)).cell? ⟨w4.heap.size, 5, none⟩ = some (I (d0.hidx)) := by simp
    have q0_6 : (w4.alloc (.cells #[I (d0.kind), I (d0.src), I (d0.dst), .slice B0_34 d0.path.length cB0_34, I (d0.pidx), I (d0.hidx), I (d0.beta), I (d0.rid), I (d0.seq), .slice B0_94 d0.pay.length cB0_94] 44)).cell? ⟨w4.heap.size, 6, none⟩ = some (I (d0.beta)) := by simp
    have q0_7 : (w4.alloc (.cells #[I (d0.kind), I (d0.src), I (d0.dst), .slice B0_34 d0.path.length cB0_34, I (d0.pidx), I (d0.hidx), I (d0.beta), I (d0.rid), I (d0.seq), .slice B0_94 d0.pay.length cB0_94] 44)).cell? ⟨w4.heap.size, 7, none⟩ = some (I (d0.rid)) := by simp
    have q0_8 : (w4.alloc (.cells #[I (d0.kind), I (d0.src), I (d0.dst), .slice B0_34 d0.path.length cB0_34, I (d0.pidx), I (d0.hidx), I (d0.beta), I (d0.rid), I (d0.seq), .slice B0_94 d0.pay.length cB0_94] 44)).cell? ⟨w4.heap.size, 8, none⟩ = some (I (d0.seq)) := by simp
    have q0_9 : (w4.alloc (.cells #[I (d0.kind), I (d0.src), I (d0.dst), .slice B0_34 d0.path.length cB0_34, I (d0.pidx), I (d0.hidx), I (d0.beta), I (d0.rid), I (d0.seq), .slice B0_94 d0.pay.length cB0_94] 44)).cell? ⟨w4.heap.size, 9, none⟩ = some (.slice B0_94 d0.pay.length cB0_94) := by simp
    go_wp2_with (fail)
    refine (impl_ValidPacket d0 _ _ (pktT.rd hQ4') sz0 l0 G0.out).mono ?_
    rintro e w5 ⟨rfl, hb5⟩
    have p0_0'''''' := ck hb5 p0_0'''''
    have p0_1'''''' := ck hb5 p0_1'''''
    have p0_2'''''' := ck hb5 p0_2'''''
    have p0_3'''''' := ck hb5 p0_3'''''
    have p0_4'''''' := ck hb5 p0_4'''''
    have p0_5'''''' := ck hb5 p0_5'''''
    have p0_6'''''' := ck hb5 p0_6'''''
    have p0_7'''''' := ck hb5 p0_7'''''
    have p0_8'''''' := ck hb5 p0_8'''''
    have p0_9'''''' := ck hb5 p0_9'''''
    have q0_0' := ck hb5 q0_0
    have q0_1' := ck hb5 q0_1
    have q0_2' := ck hb5 q0_2
    have q0_3' := ck hb5 q0_3
    have q0_4' := ck hb5 q0_4
    have q0_5' := ck hb5 q0_5
    have q0_6' := ck hb5 q0_6
    have q0_7' := ck hb5 q0_7
    have q0_8' := ck hb5 q0_8
    have q0_9' := ck hb5 q0_9
    have x_5 := ext_trans x_4' hb5
    have hQ4'' := pktT.obelow hQ4' hb5
    clear p0_0''''' p0_1''''' p0_2''''' p0_3''''' p0_4''''' p0_5''''' p0_6''''' p0_7''''' p0_8''''' p0_9''''' q0_0 q0_1 q0_2 q0_3 q0_4 q0_5 q0_6 q0_7 q0_8 q0_9 hQ4'
    go_wp2_with (fail)
    go_region_held3 (fun w' => w'.cell? ⟨w.heap.size, 0, none⟩ = some (I (d0.kind)) ∧ w'.cell? ⟨w.heap.size, 1, none⟩ = some (I (d0.src)) ∧ w'.cell? ⟨w.heap.size, 2, none⟩ = some (I (d0.dst)) ∧ w'.cell? ⟨w.heap.size, 3, none⟩ = some (.slice A0_3 d0.path.length cA0_3) ∧ w'.cell? ⟨w.heap.size, 4, none⟩ = some (I (d0.pidx)) ∧ w'.cell? ⟨w.heap.size, 5, none⟩ = some (I (d0.hidx)) ∧ w'.cell? ⟨w.heap.size, 6, none⟩ = some (I (d0.beta)) ∧ w'.cell? ⟨w.heap.size, 7, none⟩ = some (I (d0.rid)) ∧ w'.cell? ⟨w.heap.size, 8, none⟩ = some (I (d0.seq)) ∧ w'.cell? ⟨w.heap.size, 9, none⟩ = some (.slice A0_9 d0.pay.length cA0_9) ∧ w'.cell? ⟨w4.heap.size, 0, none⟩ = some (I (d0.kind)) ∧ w'.cell? ⟨w4.heap.size, 1, none⟩ = some (I (d0.src)) ∧ w'.cell? ⟨w4.heap.size, 2, none⟩ = some (I (d0.dst)) ∧ w'.cell? ⟨w4.heap.size, 3, none⟩ = some (.slice B0_34 d0.path.length cB0_34) ∧ w'.cell? ⟨w4.heap.size, 4, none⟩ = some (I (d0.pidx)) ∧ w'.cell? ⟨w4.heap.size, 5, none⟩ = some (I (d0.hidx)) ∧ w'.cell? ⟨w4.heap.size, 6, none⟩ = some (I (d0.beta)) ∧ w'.cell? ⟨w4.heap.size, 7, none⟩ = some (I (d0.rid)) ∧ w'.cell? ⟨w4.heap.size, 8, none⟩ = some (I (d0.seq)) ∧ w'.cell? ⟨w4.heap.size, 9, none⟩ = some (.slice B0_94 d0.pay.length cB0_94)) (first | exact ⟨p0_0'''''', p0_1'''''', p0_2'''''', p0_3'''''', p0_4'''''', p0_5'''''', p0_6'''''', p0_7'''''', p0_8'''''', p0_9'''''', q0_0', q0_1', q0_2', q0_3', q0_4', q0_5', q0_6', q0_7', q0_8', q0_9'⟩ | exact ⟨p0_0''''''', p0_1''''''', p0_2''''''', p0_3''''''', p0_4''''''', p0_5''''''', p0_6''''''', p0_7''''''', p0_8''''''', p0_9''''''', q0_0'', q0_1'', q0_2'', q0_3'', q0_4'', q0_5'', q0_6'', q0_7'', q0_8'', q0_9''⟩ | exact ⟨p0_0'''''''', p0_1'''''''', p0_2'''''''', p0_3'''''''', p0_4'''''''', p0_5'''''''', p0_6'''''''', p0_7'''''''', p0_8'''''''', p0_9'''''''', q0_0''', q0_1''', q0_2''', q0_3''', q0_4''', q0_5''', q0_6''', q0_7''', q0_8''', q0_9'''⟩) (first
      | (go_at_call 25; refine (to_pkt d0 _ _ (pktT.kp h0 (x_5.drew)) sz0).mono ?_; rintro e w6 ⟨cq6, fq6, rfl, hQ6, hb6⟩; obtain ⟨B0_36, cB0_36, B0_96, cB0_96, fB0_36, fB0_96, rfl, _⟩ := pkt_oform hQ6; have p0_0''''''' := ck hb6 (show w5.drew.cell? ⟨w.heap.size, 0, none⟩ = _ from p0_0''''''); have p0_1''''''' := ck hb6 (show w5.drew.cell? ⟨w.heap.size, 1, none⟩ = _ from p0_1''''''); have p0_2''''''' := ck hb6 (show w5.drew.cell? ⟨w.heap.size, 2, none⟩ = _ from p0_2''''''); have p0_3''''''' := ck hb6 (show w5.drew.cell? ⟨w.heap.size, 3, none⟩ = _ from p0_3''''''); have p0_4''''''' := ck hb6 (show w5.drew.cell? ⟨w.heap.size, 4, none⟩ = _ from p0_4''''''); have p0_5''''''' := ck hb6 (show w5.drew.cell? ⟨w.heap.size, 5, none⟩ = _ from p0_5''''''); have p0_6''''''' := ck hb6 (show w5.drew.cell? ⟨w.heap.size, 6, none⟩ = _ from p0_6''''''); have p0_7''''''' := ck hb6 (show w5.drew.cell? ⟨w.heap.size, 7, none⟩ = _ from p0_7''''''); have p0_8''''''' := ck hb6 (show w5.drew.cell? ⟨w.heap.size, 8, none⟩ = _ from p0_8''''''); have p0_9''''''' := ck hb6 (show w5.drew.cell? ⟨w.heap.size, 9, none⟩ = _ from p0_9''''''); have q0_0'' := ck hb6 (show w5.drew.cell? ⟨w4.heap.size, 0, none⟩ = _ from q0_0'); have q0_1'' := ck hb6 (show w5.drew.cell? ⟨w4.heap.size, 1, none⟩ = _ from q0_1'); have q0_2'' := ck hb6 (show w5.drew.cell? ⟨w4.heap.size, 2, none⟩ = _ from q0_2'); have q0_3'' := ck hb6 (show w5.drew.cell? ⟨w4.heap.size, 3, none⟩ = _ from q0_3'); have q0_4'' := ck hb6 (show w5.drew.cell? ⟨w4.heap.size, 4, none⟩ = _ from q0_4'); have q0_5'' := ck hb6 (show w5.drew.cell? ⟨w4.heap.size, 5, none⟩ = _ from q0_5'); have q0_6'' := ck hb6 (show w5.drew.cell? ⟨w4.heap.size, 6, none⟩ = _ from q0_6'); have q0_7'' := ck hb6 (show w5.drew.cell? ⟨w4.heap.size, 7, none⟩ = _ from q0_7'); have q0_8'' := ck hb6 (show w5.drew.cell? ⟨w4.heap.size, 8, none⟩ = _ from q0_8'); have q0_9'' := ck hb6 (show w5.drew.cell? ⟨w4.heap.size, 9, none⟩ = _ from q0_9'); have x_6 := ext_trans x_5.drew hb6; have hQ4''' := pktT.obelow (pktT.obelow hQ4'' (below_drew _)) hb6)
      | (go_at_call 27; refine (eq_pkt d0 _ _ _ (pktT.rd hQ4''') (pktT.rd hQ6) sz0).mono ?_; rintro e w7 ⟨rfl, hb7⟩; have p0_0'''''''' := ck hb7 p0_0'''''''; have p0_1'''''''' := ck hb7 p0_1'''''''; have p0_2'''''''' := ck hb7 p0_2'''''''; have p0_3'''''''' := ck hb7 p0_3'''''''; have p0_4'''''''' := ck hb7 p0_4'''''''; have p0_5'''''''' := ck hb7 p0_5'''''''; have p0_6'''''''' := ck hb7 p0_6'''''''; have p0_7'''''''' := ck hb7 p0_7'''''''; have p0_8'''''''' := ck hb7 p0_8'''''''; have p0_9'''''''' := ck hb7 p0_9'''''''; have q0_0''' := ck hb7 q0_0''; have q0_1''' := ck hb7 q0_1''; have q0_2''' := ck hb7 q0_2''; have q0_3''' := ck hb7 q0_3''; have q0_4''' := ck hb7 q0_4''; have q0_5''' := ck hb7 q0_5''; have q0_6''' := ck hb7 q0_6''; have q0_7''' := ck hb7 q0_7''; have q0_8''' := ck hb7 q0_8''; have q0_9''' := ck hb7 q0_9''; have x_7 := ext_trans x_6 hb7; have hQ4'''' := pktT.obelow hQ4''' hb7; have hQ6' := pktT.obelow hQ6 hb7))
    go_wp2_with (fail)
    go_ret
    exact ⟨rfl, x_7⟩
  ·
    go_enter Try.func14, Try.ntmps14
    have p0_0 : (w.alloc (.cells #[I (d0.kind), I (d0.src), I (d0.dst), .slice A0_3 d0.path.length cA0_3, I (d0.pidx), I (d0.hidx), I (d0.beta), I (d0.rid), I (d0.seq), .slice A0_9 d0.pay.length cA0_9] 40)).cell? ⟨w.heap.size, 0, none⟩ = some (I (d0.kind)) := by simp
    have p0_1 : (w.alloc (.cells #[I (d0.kind), I (d0.src), I (d0.dst), .slice A0_3 d0.path.length cA0_3, I (d0.pidx), I (d0.hidx), I (d0.beta), I (d0.rid), I (d0.seq), .slice A0_9 d0.pay.length cA0_9] 40)).cell? ⟨w.heap.size, 1, none⟩ = some (I (d0.src)) := by simp
    have p0_2 : (w.alloc (.cells #[I (d0.kind), I (d0.src), I (d0.dst), .slice A0_3 d0.path.length cA0_3, I (d0.pidx), I (d0.hidx), I (d0.beta), I (d0.rid), I (d0.seq), .slice A0_9 d0.pay.length cA0_9] 40)).cell? ⟨w.heap.size, 2, none⟩ = some (I (d0.dst)) := by simp
    have p0_3 : (w.alloc (.cells #[I (d0.kind), I (d0.src), I (d0.dst), .slice A0_3 d0.path.length cA0_3, I (d0.pidx), I (d0.hidx), I (d0.beta), I (d0.rid), I (d0.seq), .slice A0_9 d0.pay.length cA0_9] 40)).cell? ⟨w.heap.size, 3, none⟩ = some (.slice A0_3 d0.path.length cA0_3) := by simp
    have p0_4 : (w.alloc (.cells #[I (d0.kind), I (d0.src), I (d0.dst), .slice A0_3 d0.path.length cA0_3, I (d0.pidx), I (d0.hidx), I (d0.beta), I (d0.rid), I (d0.seq), .slice A0_9 d0.pay.length cA0_9] 40)).cell? ⟨w.heap.size, 4, none⟩ = some (I (d0.pidx)) := by simp
    have p0_5 : (w.alloc (.cells #[I (d0.kind), I (d0.src), I (d0.dst), .slice A0_3 d0.path.length cA0_3, I (d0.pidx), I (d0.hidx), I (d0.beta), I (d0.rid), I (d0.seq), .slice A0_9 d0.pay.length cA0_9] 40)).cell? ⟨w.heap.size, 5, none⟩ = some (I (d0.hidx)) := by simp
    have p0_6 : (w.alloc (.cells #[I (d0.kind), I (d0.src), I (d0.dst), .slice A0_3 d0.path.length cA0_3, I (d0.pidx), I (d0.hidx), I (d0.beta), I (d0.rid), I (d0.seq), .slice A0_9 d0.pay.length cA0_9] 40)).cell? ⟨w.heap.size, 6, none⟩ = some (I (d0.beta)) := by simp
    have p0_7 : (w.alloc (.cells #[I (d0.kind), I (d0.src), I (d0.dst), .slice A0_3 d0.path.length cA0_3, I (d0.pidx), I (d0.hidx), I (d0.beta), I (d0.rid), I (d0.seq), .slice A0_9 d0.pay.length cA0_9] 40)).cell? ⟨w.heap.size, 7, none⟩ = some (I (d0.rid)) := by simp
    have p0_8 : (w.alloc (.cells #[I (d0.kind), I (d0.src), I (d0.dst), .slice A0_3 d0.path.length cA0_3, I (d0.pidx), I (d0.hidx), I (d0.beta), I (d0.rid), I (d0.seq), .slice A0_9 d0.pay.length cA0_9] 40)).cell? ⟨w.heap.size, 8, none⟩ = some (I (d0.seq)) := by simp
    have p0_9 : (w.alloc (.cells #[I (d0.kind), I (d0.src), I (d0.dst), .slice A0_3 d0.path.length cA0_3, I (d0.pidx), I (d0.hidx), I (d0.beta), I (d0.rid), I (d0.seq), .slice A0_9 d0.pay.length cA0_9] 40)).cell? ⟨w.heap.size, 9, none⟩ = some (.slice A0_9 d0.pay.length cA0_9) := by simp
    go_wp2_with (fail)
    refine (szc_pkt d0 _ (1048576) _ (pktT.kp h0 x0) (by omega) (by omega) l0).mono ?_
    rintro e w1 ⟨rfl, hb1⟩
    rw [szI_no (by omega)]
    have p0_0' := ck hb1 p0_0
    have p0_1' := ck hb1 p0_1
    have p0_2' := ck hb1 p0_2
    have p0_3' := ck hb1 p0_3
    have p0_4' := ck hb1 p0_4
    have p0_5' := ck hb1 p0_5
    have p0_6' := ck hb1 p0_6
    have p0_7' := ck hb1 p0_7
    have p0_8' := ck hb1 p0_8
    have p0_9' := ck hb1 p0_9
    have x_1 := ext_trans x0 hb1
    clear p0_0 p0_1 p0_2 p0_3 p0_4 p0_5 p0_6 p0_7 p0_8 p0_9
    go_wp2_with (fail)
    go_ret
    exact ⟨rfl, x_1⟩

namespace fnExactValidPacket
open Go.ChangeShapes Go.WideShapes Go.ChangeAt

set_option maxRecDepth 100000 in
theorem lifted (os : Os) (started : os.Started) (H : Type) (enc : TypeId × Value → H) :
    ReturnsInHanded {} Try.checked os 14 .any (Rows.fnExactValidPacketSpec.pre6 enc Try.prog Try.f14 Rows.fnExactValidPacketRow.domain false) (Rows.fnExactValidPacketSpec.post enc Try.prog Try.f14 false true false false) := by
  refine returnsInHanded_of_change (C := Try.checked) knob started (by kernel_rfl) Try.func14
    (ChangeSpec.witness6 (enc := enc) (C := Try.checked) false ⟨#[], #[.agg #[I 0, I 0, I 0, .slice none 0 0, I 0, I 0, I 0, I 0, I 0, .slice none 0 0]], []⟩ 8 (by kernel_rfl) (by kernel_rfl) (by kernel_rfl) (by kernel_rfl)) ?_
  intro W base args ds gs before hval0 hW hcnd _
  have hval : ∀ (j : Nat) t v, Try.f14.params[j]? = some t → args[j]? = some v → Value.okWide Try.prog W .any base t v := hval0
  have hW' := hW
  obtain ⟨p, q, hA0, hV, rfl, hfz, hnd⟩ := hW
  have hA : DataW.TrodAll enc Try.prog W 0 (fun _ => true) true Try.f14.params.toList args.toList ds p := hA0
  rw [Try.params14] at hA hval
  obtain ⟨v0, vs0, d0, ds0, p0, q0, hargs, rfl, rfl, h0, r0⟩ := trodAll_cons hA
  obtain ⟨rfl, rfl, rfl⟩ := trodAll_nil r0
  obtain rfl : args = #[v0] := by cases args; simp_all
  obtain ⟨rfl, rfl⟩ := trodVars_none hV
  have k0 := h0
  have lt0 : ∀ x ∈ p0, x.block < W.heap.size := by obtain ⟨m, hm⟩ := k0; exact DataW.trod_lt m _ _ _ hm
  obtain ⟨cs0, x0, rfl, R0, L0, G0⟩ := open_pkt (hval 0 40 v0 rfl rfl) h0
  clear hA0 hval0
  refine (lawValidPacket x0 _ W R0 L0 G0).mono fun e W' ⟨he, bel⟩ => ?_
  subst he
  exact ⟨_, rfl, _, _, _, [], _, [], hW', trodAll_mk1 (shut_bool Try.underlying4 _), (trodAll_cons_mk (Below.trod laidOut (by kernel_rfl) (of_decide_eq_true (by kernel_rfl)) k0 bel lt0) trodAll_mk0), rfl, bel.frame _, fun h => by cases h⟩

theorem over : Rows.fnExactValidPacketRow.holds Try.pinned (OpenSpec.ofChange Rows.fnExactValidPacketSpec) :=
  OpenClaim.holds_of_wide 14 Try.f14 rfl rfl rfl rfl rfl rfl rfl ⟨rfl, rfl, rfl, rfl, rfl⟩ rfl rfl rfl rfl rfl (by kernel_rfl) Try.func14 (by kernel_rfl)
    (of_decide_eq_true (by kernel_rfl)) (by unfold Func.isWrapper; first | (rw [if_pos (by decide +kernel)]; kernel_rfl) | (rw [if_neg (by decide +kernel)]; exact ⟨rfl, rfl⟩))
    (fun os started H enc _ => lifted os started H enc)

theorem proved : Rows.FnExactValidPacketSaid := over
#print axioms proved
end fnExactValidPacket
end Go.Proofs.Ytailmflghbdglaa
