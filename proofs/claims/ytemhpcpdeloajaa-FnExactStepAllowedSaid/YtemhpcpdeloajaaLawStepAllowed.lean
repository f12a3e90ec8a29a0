/- laws.FnExactStepAllowed returns true, for all arguments: the walk of the law out of contracts, and the row. No condition. (Printed by lawgen.py.) -/
import Derived.Test.YtemhpcpdeloajaaStepAllowed
import Derived.Test.YtemhpcpdeloajaaFamTopo
import Derived.Test.YtemhpcpdeloajaaFamStep
import Derived.Test.YtemhpcpdeloajaaOpen
import Derived.Deep.RegionHeld3
namespace Go.Proofs.Ytemhpcpdeloajaa
open Go.RowKit
set_option linter.unusedVariables false

set_option maxHeartbeats 2000000 in
set_option maxRecDepth 100000 in
theorem lawStepAllowed (d0 : Topo) (cs0 : List Value) (d1 : Stp) (w : World) (h0 : topoT.R w cs0 d0) (l0 : lenOk_topo d0) (g0 : rng_topo d0) (g1 : rng_step d1) :
    Calls Try.prog 13 #[.agg cs0.toArray, .agg #[I (d1.ia), I (d1.ing), I (d1.eg)]] w fun r w' => r = .returned (.bool true) ∧ Below w.heap.size w w' := by
  obtain ⟨A0_0, cA0_0, A0_1, cA0_1, rfl, _⟩ := topo_form h0
  have G0 := hid g0
  clear g0
  have G1 := hid g1
  clear g1
  have x0 : Below w.heap.size w ((w.alloc (.cells #[.slice A0_0 d0.ases.length cA0_0, .slice A0_1 d0.links.length cA0_1] 53)).alloc (.cells #[I (d1.ia), I (d1.ing), I (d1.eg)] 55)) := by repeat (first | refine ext_alloc ?_ _ | exact Below.refl _ _)
  by_cases z0 : (sz_topo d0 : Int) ≤ 1048576
  · have y0 : ¬ 1048576 - (sz_topo d0 : Int) < 0 := by omega
    go_enter Try.func13, Try.ntmps13
    have p0_0 : ((w.alloc (.cells #[.slice A0_0 d0.ases.length cA0_0, .slice A0_1 d0.links.length cA0_1] 53)).alloc (.cells #[I (d1.ia), I (d1.ing), I (d1.eg)] 55)).cell? ⟨w.heap.size, 0, none⟩ = some (.slice A0_0 d0.ases.length cA0_0) := by simp
    have p0_1 : ((w.alloc (.cells #[.slice A0_0 d0.ases.length cA0_0, .slice A0_1 d0.links.length cA0_1] 53)).alloc (.cells #[I (d1.ia), I (d1.ing), I (d1.eg)] 55)).cell? ⟨w.heap.size, 1, none⟩ = some (.slice A0_1 d0.links.length cA0_1) := by simp
    have p1_0 : ((w.alloc (.cells #[.slice A0_0 d0.ases.length cA0_0, .slice A0_1 d0.links.length cA0_1] 53)).alloc (.cells #[I (d1.ia), I (d1.ing), I (d1.eg)] 55)).cell? ⟨w.heap.size + 1, 0, none⟩ = some (I (d1.ia)) := by simp
    have p1_1 : ((w.alloc (.cells #[.slice A0_0 d0.ases.length cA0_0, .slice A0_1 d0.links.length cA0_1] 53)).alloc (.cells #[I (d1.ia), I (d1.ing), I (d1.eg)] 55)).cell? ⟨w.heap.size + 1, 1, none⟩ = some (I (d1.ing)) := by simp
    have p1_2 : ((w.alloc (.cells #[.slice A0_0 d0.ases.length cA0_0, .slice A0_1 d0.links.length cA0_1] 53)).alloc (.cells #[I (d1.ia), I (d1.ing), I (d1.eg)] 55)).cell? ⟨w.heap.size + 1, 2, none⟩ = some (I (d1.eg)) := by simp
    go_wp2_with (fail)
    refine (szc_topo d0 _ (1048576) _ (topoT.kp h0 x0) (by omega) (by omega) l0).mono ?_
    rintro e w1 ⟨rfl, hb1⟩
    rw [szI_yes (by omega)]
    have p0_0' := ck hb1 p0_0
    have p0_1' := ck hb1 p0_1
    have p1_0' := ck hb1 p1_0
    have p1_1' := ck hb1 p1_1
    have p1_2' := ck hb1 p1_2
    have x_1 := ext_trans x0 hb1
    clear p0_0 p0_1 p1_0 p1_1 p1_2
    have sz0 : sz_topo d0 ≤ 1048576 := by omega
    go_wp2_with (fail)
    go_region_held3 (fun w' => w'.cell? ⟨w.heap.size, 0, none⟩ = some (.slice A0_0 d0.ases.length cA0_0) ∧ w'.cell? ⟨w.heap.size, 1, none⟩ = some (.slice A0_1 d0.links.length cA0_1) ∧ w'.cell? ⟨w.heap.size + 1, 0, none⟩ = some (I (d1.ia)) ∧ w'.cell? ⟨w.heap.size + 1, 1, none⟩ = some (I (d1.ing)) ∧ w'.cell? ⟨w.heap.size + 1, 2, none⟩ = some (I (d1.eg))) (first | exact ⟨p0_0', p0_1', p1_0', p1_1', p1_2'⟩ | exact ⟨p0_0'', p0_1'', p1_0'', p1_1'', p1_2''⟩ | exact ⟨p0_0''', p0_1''', p1_0''', p1_1''', p1_2'''⟩ | exact ⟨p0_0'''', p0_1'''', p1_0'''', p1_1'''', p1_2''''⟩) (first
      | (go_at_call 47; refine (to_topo d0 _ _ (topoT.kp h0 (x_1.drew)) sz0).mono ?_; rintro e w2 ⟨cq2, fq2, rfl, hQ2, hb2⟩; obtain ⟨B0_02, cB0_02, B0_12, cB0_12, fB0_02, fB0_12, rfl, _⟩ := topo_oform hQ2; have p0_0'' := ck hb2 (show w1.drew.cell? ⟨w.heap.size, 0, none⟩ = _ from p0_0'); have p0_1'' := ck hb2 (show w1.drew.cell? ⟨w.heap.size, 1, none⟩ = _ from p0_1'); have p1_0'' := ck hb2 (show w1.drew.cell? ⟨w.heap.size + 1, 0, none⟩ = _ from p1_0'); have p1_1'' := ck hb2 (show w1.drew.cell? ⟨w.heap.size + 1, 1, none⟩ = _ from p1_1'); have p1_2'' := ck hb2 (show w1.drew.cell? ⟨w.heap.size + 1, 2, none⟩ = _ from p1_2'); have x_2 := ext_trans x_1.drew hb2)
      | (go_at_call 48; refine (to_step _ _ _ _).mono ?_; rintro e w3 ⟨rfl, hb3⟩; have p0_0''' := ck hb3 p0_0''; have p0_1''' := ck hb3 p0_1''; have p1_0''' := ck hb3 p1_0''; have p1_1''' := ck hb3 p1_1''; have p1_2''' := ck hb3 p1_2''; have x_3 := ext_trans x_2 hb3; have hQ2' := topoT.obelow hQ2 hb3)
      | (go_at_call 46; refine (spec_StepAllowed d0 _ d1 _ (topoT.rd hQ2') sz0 l0 G0.out G1.out).mono ?_; rintro e w4 ⟨rfl, hb4⟩; have p0_0'''' := ck hb4 p0_0'''; have p0_1'''' := ck hb4 p0_1'''; have p1_0'''' := ck hb4 p1_0'''; have p1_1'''' := ck hb4 p1_1'''; have p1_2'''' := ck hb4 p1_2'''; have x_4 := ext_trans x_3 hb4; have hQ2'' := topoT.obelow hQ2' hb4))
    go_wp2_with (fail)
    refine (to_topo d0 _ _ (topoT.kp h0 (x_4)) sz0).mono ?_
    rintro e w5 ⟨cq5, fq5, rfl, hQ5, hb5⟩
    obtain ⟨B0_05, cB0_05, B0_15, cB0_15, fB0_05, fB0_15, rfl, _⟩ := topo_oform hQ5
    have p0_0''''' := ck hb5 p0_0''''
    have p0_1''''' := ck hb5 p0_1''''
    have p1_0''''' := ck hb5 p1_0''''
    have p1_1''''' := ck hb5 p1_1''''
    have p1_2''''' := ck hb5 p1_2''''
    have x_5 := ext_trans x_4 hb5
    clear p0_0'''' p0_1'''' p1_0'''' p1_1'''' p1_2''''
    have p0_0'''''' : (w5.alloc (.cells #[.slice B0_05 d0.ases.length cB0_05, .slice B0_15 d0.links.length cB0_15] 61)).cell? ⟨w.heap.size, 0, none⟩ = some (.slice A0_0 d0.ases.length cA0_0) := ck (ext_alloc1 _ _) p0_0'''''
    have p0_1'''''' : (w5.alloc (.cells #[.slice B0_05 d0.ases.length cB0_05, .slice B0_15 d0.links.length cB0_15] 61)).cell? ⟨w.heap.size, 1, none⟩ = some (.slice A0_1 d0.links.length cA0_1) := ck (ext_alloc1 _ _) p0_1'''''
    have p1_0'''''' : (w5.alloc (.cells #[.slice B0_05 d0.ases.length cB0_05, .slice B0_15 d0.links.length cB0_15] 61)).cell? ⟨w.heap.size + 1, 0, none⟩ = some (I (d1.ia)) := ck (ext_alloc1 _ _) p1_0'''''
    have p1_1'''''' : (w5.alloc (.cells #[.slice B0_05 d0.ases.length cB0_05, .slice B0_15 d0.links.length cB0_15] 61)).cell? ⟨w.heap.size + 1, 1, none⟩ = some (I (d1.ing)) := ck (ext_alloc1 _ _) p1_1'''''
    have p1_2'''''' : (w5.alloc (.cells #[.slice B0_05 d0.ases.length cB0_05, .slice B0_15 d0.links.length cB0_15] 61)).cell? ⟨w.heap.size + 1, 2, none⟩ = some (I (d1.eg)) := ck (ext_alloc1 _ _) p1_2'''''
    have hQ5' : topoT.O _ (w5.alloc (.cells #[.slice B0_05 d0.ases.length cB0_05, .slice B0_15 d0.links.length cB0_15] 61)) _ _ _ := topoT.obelow hQ5 (ext_alloc1 _ _)
    clear p0_0''''' p0_1''''' p1_0''''' p1_1''''' p1_2''''' hQ5
    have x_5' : Below w.heap.size w (w5.alloc (.cells #[.slice B0_05 d0.ases.length cB0_05, .slice B0_15 d0.links.length cB0_15] 61)) := ext_alloc x_5 _
    have q0_0 : (w5.alloc (.cells #[.slice B0_05 d0.ases.length cB0_05, .slice B0_15 d0.links.length cB0_15] 61)).cell? ⟨w5.heap.size, 0, none⟩ = some (.slice B0_05 d0.ases.length cB0_05) := by simp
    have q0_1 : (w5.alloc (.cells #[.slice B0_05 d0.ases.length cB0_05, .slice B0_15 d0.links.length cB0_15] 61)).cell? ⟨w5.heap.size, 1, none⟩ = some (.slice B0_15 d0.links.length cB0_15) := by simp
    go_wp2_with (fail)
    go_region_held3 (fun w' => w'.cell? ⟨w.heap.size, 0, none⟩ = some (.slice A0_0 d0.ases.length cA0_0) ∧ w'.cell? ⟨w.heap.size, 1, none⟩ = some (.slice A0_1 d0.links.length cA0_1) ∧ w'.cell? ⟨w.heap.size + 1, 0, none⟩ = some (I (d1.ia)) ∧ w'.cell? ⟨w.heap.size + 1, 1, none⟩ = some (I (d1.ing)) ∧ w'.cell? ⟨w.heap.size + 1, 2, none⟩ = some (I (d1.eg)) ∧ w'.cell? ⟨w5.heap.size, 0, none⟩ = some (.slice B0_05 d0.ases.length cB0_05) ∧ w'.cell? ⟨w5.heap.size, 1, none⟩ = some (.slice B0_15 d0.links.length cB0_15)) (first | exact ⟨p0_0'''''', p0_1'''''', p1_0'''''', p1_1'''''', p1_2'''''', q0_0, q0_1⟩ | exact ⟨p0_0''''''', p0_1''''''', p1_0''''''', p1_1''''''', p1_2''''''', q0_0', q0_1'⟩ | exact ⟨p0_0'''''''', p0_1'''''''', p1_0'''''''', p1_1'''''''', p1_2'''''''', q0_0'', q0_1''⟩) (first
      | (go_at_call 48; refine (to_step _ _ _ _).mono ?_; rintro e w6 ⟨rfl, hb6⟩; have p0_0''''''' := ck hb6 (show (w5.alloc (.cells #[.slice B0_05 d0.ases.length cB0_05, .slice B0_15 d0.links.length cB0_15] 61)).drew.cell? ⟨w.heap.size, 0, none⟩ = _ from p0_0''''''); have p0_1''''''' := ck hb6 (show (w5.alloc (.cells #[.slice B0_05 d0.ases.length cB0_05, .slice B0_15 d0.links.length cB0_15] 61)).drew.cell? ⟨w.heap.size, 1, none⟩ = _ from p0_1''''''); have p1_0''''''' := ck hb6 (show (w5.alloc (.cells #[.slice B0_05 d0.ases.length cB0_05, .slice B0_15 d0.links.length cB0_15] 61)).drew.cell? ⟨w.heap.size + 1, 0, none⟩ = _ from p1_0''''''); have p1_1''''''' := ck hb6 (show (w5.alloc (.cells #[.slice B0_05 d0.ases.length cB0_05, .slice B0_15 d0.links.length cB0_15] 61)).drew.cell? ⟨w.heap.size + 1, 1, none⟩ = _ from p1_1''''''); have p1_2''''''' := ck hb6 (show (w5.alloc (.cells #[.slice B0_05 d0.ases.length cB0_05, .slice B0_15 d0.links.length cB0_15] 61)).drew.cell? ⟨w.heap.size + 1, 2, none⟩ = _ from p1_2''''''); have q0_0' := ck hb6 (show (w5.alloc (.cells #[.slice B0_05 d0.ases.length cB0_05, .slice B0_15 d0.links.length cB0_15] 61)).drew.cell? ⟨w5.heap.size, 0, none⟩ = _ from q0_0); have q0_1' := ck hb6 (show (w5.alloc (.cells #[.slice B0_05 d0.ases.length cB0_05, .slice B0_15 d0.links.length cB0_15] 61)).drew.cell? ⟨w5.heap.size, 1, none⟩ = _ from q0_1); have x_6 := ext_trans x_5'.drew hb6; have hQ5'' := topoT.obelow (topoT.obelow hQ5' (below_drew _)) hb6)
      | (go_at_call 49; refine (impl_StepAllowed d0 _ d1 _ (topoT.rd hQ5'') sz0 l0 G0.out G1.out).mono ?_; rintro e w7 ⟨rfl, hb7⟩; have p0_0'''''''' := ck hb7 p0_0'''''''; have p0_1'''''''' := ck hb7 p0_1'''''''; have p1_0'''''''' := ck hb7 p1_0'''''''; have p1_1'''''''' := ck hb7 p1_1'''''''; have p1_2'''''''' := ck hb7 p1_2'''''''; have q0_0'' := ck hb7 q0_0'; have q0_1'' := ck hb7 q0_1'; have x_7 := ext_trans x_6 hb7; have hQ5''' := topoT.obelow hQ5'' hb7))
    go_wp2_with (fail)
    go_region_held3 (fun w' => w'.cell? ⟨w.heap.size, 0, none⟩ = some (.slice A0_0 d0.ases.length cA0_0) ∧ w'.cell? ⟨w.heap.size, 1, none⟩ = some (.slice A0_1 d0.links.length cA0_1) ∧ w'.cell? ⟨w.heap.size + 1, 0, none⟩ = some (I (d1.ia)) ∧ w'.cell? ⟨w.heap.size + 1, 1, none⟩ = some (I (d1.ing)) ∧ w'.cell? ⟨w.heap.size + 1, 2, none⟩ = some (I (d1.eg)) ∧ w'.cell? ⟨w5.heap.size, 0, none⟩ = some (.slice B0_05 d0.ases.length cB0_05) ∧ w'.cell? ⟨w5.heap.size, 1, none⟩ = some (.slice B0_15 d0.links.length cB0_15)) (first | exact ⟨p0_0'''''''', p0_1'''''''', p1_0'''''''', p1_1'''''''', p1_2'''''''', q0_0'', q0_1''⟩ | exact ⟨p0_0''''''''', p0_1''''''''', p1_0''''''''', p1_1''''''''', p1_2''''''''', q0_0''', q0_1'''⟩ | exact ⟨p0_0'''''''''', p0_1'''''''''', p1_0'''''''''', p1_1'''''''''', p1_2'''''''''', q0_0'''', q0_1''''⟩) (first
      | (go_at_call 47; refine (to_topo d0 _ _ (topoT.kp h0 (x_7.drew)) sz0).mono ?_; rintro e w8 ⟨cq8, fq8, rfl, hQ8, hb8⟩; obtain ⟨B0_08, cB0_08, B0_18, cB0_18, fB0_08, fB0_18, rfl, _⟩ := topo_oform hQ8; have p0_0''''''''' := ck hb8 (show w7.drew.cell? ⟨w.heap.size, 0, none⟩ = _ from p0_0''''''''); have p0_1''''''''' := ck hb8 (show w7.drew.cell? ⟨w.heap.size, 1, none⟩ = _ from p0_1''''''''); have p1_0''''''''' := ck hb8 (show w7.drew.cell? ⟨w.heap.size + 1, 0, none⟩ = _ from p1_0''''''''); have p1_1''''''''' := ck hb8 (show w7.drew.cell? ⟨w.heap.size + 1, 1, none⟩ = _ from p1_1''''''''); have p1_2''''''''' := ck hb8 (show w7.drew.cell? ⟨w.heap.size + 1, 2, none⟩ = _ from p1_2''''''''); have q0_0''' := ck hb8 (show w7.drew.cell? ⟨w5.heap.size, 0, none⟩ = _ from q0_0''); have q0_1''' := ck hb8 (show w7.drew.cell? ⟨w5.heap.size, 1, none⟩ = _ from q0_1''); have x_8 := ext_trans x_7.drew hb8; have hQ5'''' := topoT.obelow (topoT.obelow hQ5''' (below_drew _)) hb8)
      | (go_at_call 50; refine (eq_topo d0 _ _ _ (topoT.rd hQ5'''') (topoT.rd hQ8) sz0).mono ?_; rintro e w9 ⟨rfl, hb9⟩; have p0_0'''''''''' := ck hb9 p0_0'''''''''; have p0_1'''''''''' := ck hb9 p0_1'''''''''; have p1_0'''''''''' := ck hb9 p1_0'''''''''; have p1_1'''''''''' := ck hb9 p1_1'''''''''; have p1_2'''''''''' := ck hb9 p1_2'''''''''; have q0_0'''' := ck hb9 q0_0'''; have q0_1'''' := ck hb9 q0_1'''; have x_9 := ext_trans x_8 hb9; have hQ5''''' := topoT.obelow hQ5'''' hb9; have hQ8' := topoT.obelow hQ8 hb9))
    go_wp2_with (fail)
    go_ret
    exact ⟨rfl, x_9⟩
  ·
    go_enter Try.func13, Try.ntmps13
    have p0_0 : ((w.alloc (.cells #[.slice A0_0 d0.ases.length cA0_0, .slice A0_1 d0.links.length cA0_1] 53)).alloc (.cells #[I (d1.ia), I (d1.ing), I (d1.eg)] 55)).cell? ⟨w.heap.size, 0, none⟩ = some (.slice A0_0 d0.ases.length cA0_0) := by simp
    have p0_1 : ((w.alloc (.cells #[.slice A0_0 d0.ases.length cA0_0, .slice A0_1 d0.links.length cA0_1] 53)).alloc (.cells #[I (d1.ia), I (d1.ing), I (d1.eg)] 55)).cell? ⟨w.heap.size, 1, none⟩ = some (.slice A0_1 d0.links.length cA0_1) := by simp
    have p1_0 : ((w.alloc (.cells #[.slice A0_0 d0.ases.length cA0_0, .slice A0_1 d0.links.length cA0_1] 53)).alloc (.cells #[I (d1.ia), I (d1.ing), I (d1.eg)] 55)).cell? ⟨w.heap.size + 1, 0, none⟩ = some (I (d1.ia)) := by simp
    have p1_1 : ((w.alloc (.cells #[.slice A0_0 d0.ases.length cA0_0, .slice A0_1 d0.links.length cA0_1] 53)).alloc (.cells #[I (d1.ia), I (d1.ing), I (d1.eg)] 55)).cell? ⟨w.heap.size + 1, 1, none⟩ = some (I (d1.ing)) := by simp
    have p1_2 : ((w.alloc (.cells #[.slice A0_0 d0.ases.length cA0_0, .slice A0_1 d0.links.length cA0_1] 53)).alloc (.cells #[I (d1.ia), I (d1.ing), I (d1.eg)] 55)).cell? ⟨w.heap.size + 1, 2, none⟩ = some (I (d1.eg)) := by simp
    go_wp2_with (fail)
    refine (szc_topo d0 _ (1048576) _ (topoT.kp h0 x0) (by omega) (by omega) l0).mono ?_
    rintro e w1 ⟨rfl, hb1⟩
    rw [szI_no (by omega)]
    have p0_0' := ck hb1 p0_0
    have p0_1' := ck hb1 p0_1
    have p1_0' := ck hb1 p1_0
    have p1_1' := ck hb1 p1_1
    have p1_2' := ck hb1 p1_2
    have x_1 := ext_trans x0 hb1
    clear p0_0 p0_1 p1_0 p1_1 p1_2
    go_wp2_with (fail)
    go_ret
    exact ⟨rfl, x_1⟩

namespace fnExactStepAllowed
open Go.ChangeShapes Go.WideShapes Go.ChangeAt

set_option maxRecDepth 100000 in
theorem lifted (os : Os) (started : os.Started) (H : Type) (enc : TypeId × Value → H) :
    ReturnsInHanded {} Try.checked os 13 .any (Rows.fnExactStepAllowedSpec.pre6 enc Try.prog Try.f13 Rows.fnExactStepAllowedRow.domain false) (Rows.fnExactStepAllowedSpec.post enc Try.prog Try.f13 false true false false) := by
  refine returnsInHanded_of_change (C := Try.checked) knob started (by kernel_rfl) Try.func13
    (ChangeSpec.witness6 (enc := enc) (C := Try.checked) false ⟨#[], #[.agg #[.slice none 0 0, .slice none 0 0], .agg #[I 0, I 0, I 0]], []⟩ 8 (by kernel_rfl) (by kernel_rfl) (by kernel_rfl) (by kernel_rfl)) ?_
  intro W base args ds gs before hval0 hW hcnd _
  have hval : ∀ (j : Nat) t v, Try.f13.params[j]? = some t → args[j]? = some v → Value.okWide Try.prog W .any base t v := hval0
  have hW' := hW
  obtain ⟨p, q, hA0, hV, rfl, hfz, hnd⟩ := hW
  have hA : DataW.TrodAll enc Try.prog W 0 (fun _ => true) true Try.f13.params.toList args.toList ds p := hA0
  rw [Try.params13] at hA hval
  obtain ⟨v0, vs0, d0, ds0, p0, q0, hargs, rfl, rfl, h0, r0⟩ := trodAll_cons hA
  obtain ⟨v1, vs1, d1, ds1, p1, q1, rfl, rfl, rfl, h1, r1⟩ := trodAll_cons r0
  obtain ⟨rfl, rfl, rfl⟩ := trodAll_nil r1
  obtain rfl : args = #[v0, v1] := by cases args; simp_all
  obtain ⟨rfl, rfl⟩ := trodVars_none hV
  have k0 := h0
  have lt0 : ∀ x ∈ p0, x.block < W.heap.size := by obtain ⟨m, hm⟩ := k0; exact DataW.trod_lt m _ _ _ hm
  obtain ⟨cs0, x0, rfl, R0, L0, G0⟩ := open_topo (hval 0 53 v0 rfl rfl) h0
  have k1 := h1
  have lt1 : ∀ x ∈ p1, x.block < W.heap.size := by obtain ⟨m, hm⟩ := k1; exact DataW.trod_lt m _ _ _ hm
  obtain ⟨x1, rfl, G1⟩ := open_step (hval 1 55 v1 rfl rfl) h1
  clear hA0 hval0
  refine (lawStepAllowed x0 _ x1 W R0 L0 G0 G1).mono fun e W' ⟨he, bel⟩ => ?_
  subst he
  exact ⟨_, rfl, _, _, _, [], _, [], hW', trodAll_mk1 (shut_bool Try.underlying4 _), (trodAll_cons_mk (Below.trod laidOut (by kernel_rfl) (of_decide_eq_true (by kernel_rfl)) k0 bel lt0) (trodAll_cons_mk (Below.trod laidOut (by kernel_rfl) (of_decide_eq_true (by kernel_rfl)) k1 bel lt1) trodAll_mk0)), rfl, bel.frame _, fun h => by cases h⟩

theorem over : Rows.fnExactStepAllowedRow.holds Try.pinned (OpenSpec.ofChange Rows.fnExactStepAllowedSpec) :=
  OpenClaim.holds_of_wide 13 Try.f13 rfl rfl rfl rfl rfl rfl rfl ⟨rfl, rfl, rfl, rfl, rfl⟩ rfl rfl rfl rfl rfl (by kernel_rfl) Try.func13 (by kernel_rfl)
    (of_decide_eq_true (by kernel_rfl)) (by unfold Func.isWrapper; first | (rw [if_pos (by decide +kernel)]; kernel_rfl) | (rw [if_neg (by decide +kernel)]; exact ⟨rfl, rfl⟩))
    (fun os started H enc _ => lifted os started H enc)

theorem proved : Rows.FnExactStepAllowedSaid := over
#print axioms proved
end fnExactStepAllowed
end Go.Proofs.Ytemhpcpdeloajaa
