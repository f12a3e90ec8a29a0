/- laws.FnExactSharedInterfaces returns true, for all arguments: the walk of the law out of contracts, and the row. No condition. (Printed by lawgen.py.) -/
import Derived.Test.YtailmflghbdglaaIfaces
import Derived.Test.YtailmflghbdglaaFamPath
import Derived.Test.YtailmflghbdglaaOpen
import Derived.Deep.RegionHeld3
namespace Go.Proofs.Ytailmflghbdglaa
open Go.RowKit
set_option linter.unusedVariables false

set_option maxHeartbeats 2000000 in
set_option maxRecDepth 100000 in
theorem lawSharedInterfaces (d0 : Path) (cs0 : List Value) (d1 : Path) (cs1 : List Value) (w : World) (h0 : pathT.R w cs0 d0) (l0 : lenOk_path d0) (g0 : rng_path d0) (h1 : pathT.R w cs1 d1) (l1 : lenOk_path d1) (g1 : rng_path d1) :
    Calls Try.prog 11 #[.agg cs0.toArray, .agg cs1.toArray] w fun r w' => r = .returned (.bool true) ∧ Below w.heap.size w w' := by
  obtain ⟨A0_0, cA0_0, rfl, _⟩ := path_form h0
  have G0 := hid g0
  clear g0
  obtain ⟨A1_0, cA1_0, rfl, _⟩ := path_form h1
  have G1 := hid g1
  clear g1
  have x0 : Below w.heap.size w ((w.alloc (.cells #[.slice A0_0 d0.length cA0_0] 25)).alloc (.cells #[.slice A1_0 d1.length cA1_0] 25)) := by repeat (first | refine ext_alloc ?_ _ | exact Below.refl _ _)
  by_cases z0 : (sz_path d0 : Int) ≤ 1048576
  · have y0 : ¬ 1048576 - (sz_path d0 : Int) < 0 := by omega
    by_cases z1 : (sz_path d1 : Int) ≤ 1048576 - sz_path d0
    · have y1 : ¬ 1048576 - sz_path d0 - (sz_path d1 : Int) < 0 := by omega
      go_enter Try.func11, Try.ntmps11
      have p0_0 : ((w.alloc (.cells #[.slice A0_0 d0.length cA0_0] 25)).alloc (.cells #[.slice A1_0 d1.length cA1_0] 25)).cell? ⟨w.heap.size, 0, none⟩ = some (.slice A0_0 d0.length cA0_0) := by simp
      have p1_0 : ((w.alloc (.cells #[.slice A0_0 d0.length cA0_0] 25)).alloc (.cells #[.slice A1_0 d1.length cA1_0] 25)).cell? ⟨w.heap.size + 1, 0, none⟩ = some (.slice A1_0 d1.length cA1_0) := by simp
      go_wp2_with (fail)
      refine (szc_path d0 _ (1048576) _ (pathT.kp h0 x0) (by omega) (by omega) l0).mono ?_
      rintro e w1 ⟨rfl, hb1⟩
      rw [szI_yes (by omega)]
      have p0_0' := ck hb1 p0_0
      have p1_0' := ck hb1 p1_0
      have x_1 := ext_trans x0 hb1
      clear p0_0 p1_0
      go_wp2_with (fail)
      refine (szc_path d1 _ (1048576 - sz_path d0) _ (pathT.kp h1 x_1) (by omega) (by omega) l1).mono ?_
      rintro e w2 ⟨rfl, hb2⟩
      rw [szI_yes (by omega)]
      have p0_0'' := ck hb2 p0_0'
      have p1_0'' := ck hb2 p1_0'
      have x_2 := ext_trans x_1 hb2
      clear p0_0' p1_0'
      have sz0 : sz_path d0 ≤ 1048576 := by omega
      have sz1 : sz_path d1 ≤ 1048576 := by omega
      go_wp2_with (fail)
      go_region_held3 (fun w' => w'.cell? ⟨w.heap.size, 0, none⟩ = some (.slice A0_0 d0.length cA0_0) ∧ w'.cell? ⟨w.heap.size + 1, 0, none⟩ = some (.slice A1_0 d1.length cA1_0)) (first | exact ⟨p0_0'', p1_0''⟩ | exact ⟨p0_0''', p1_0'''⟩ | exact ⟨p0_0'''', p1_0''''⟩ | exact ⟨p0_0''''', p1_0'''''⟩) (first
        | (go_at_call_of 19 (Value.agg #[.slice A0_0 d0.length cA0_0]); refine (to_path d0 _ _ (pathT.kp h0 (x_2.drew)) sz0).mono ?_; rintro e w3 ⟨cq3, fq3, rfl, hQ3, hb3⟩; obtain ⟨B0_03, cB0_03, fB0_03, rfl, _⟩ := path_oform hQ3; have p0_0''' := ck hb3 (show w2.drew.cell? ⟨w.heap.size, 0, none⟩ = _ from p0_0''); have p1_0''' := ck hb3 (show w2.drew.cell? ⟨w.heap.size + 1, 0, none⟩ = _ from p1_0''); have x_3 := ext_trans x_2.drew hb3)
        | (go_at_call_of 19 (Value.agg #[.slice A1_0 d1.length cA1_0]); refine (to_path d1 _ _ (pathT.kp h1 (x_3)) sz1).mono ?_; rintro e w4 ⟨cq4, fq4, rfl, hQ4, hb4⟩; obtain ⟨B1_04, cB1_04, fB1_04, rfl, _⟩ := path_oform hQ4; have p0_0'''' := ck hb4 p0_0'''; have p1_0'''' := ck hb4 p1_0'''; have x_4 := ext_trans x_3 hb4; have hQ3' := pathT.obelow hQ3 hb4)
        | (go_at_call 45; refine (spec_SharedInterfaces d0 _ d1 _ _ (pathT.rd hQ3') sz0 l0 G0.out (pathT.rd hQ4) sz1 l1 G1.out).mono ?_; rintro e w5 ⟨rfl, hb5⟩; have p0_0''''' := ck hb5 p0_0''''; have p1_0''''' := ck hb5 p1_0''''; have x_5 := ext_trans x_4 hb5; have hQ3'' := pathT.obelow hQ3' hb5; have hQ4' := pathT.obelow hQ4 hb5))
      go_wp2_with (fail)
      refine (to_path d0 _ _ (pathT.kp h0 (x_5)) sz0).mono ?_
      rintro e w6 ⟨cq6, fq6, rfl, hQ6, hb6⟩
      obtain ⟨B0_06, cB0_06, fB0_06, rfl, _⟩ := path_oform hQ6
      have p0_0'''''' := ck hb6 p0_0'''''
      have p1_0'''''' := ck hb6 p1_0'''''
      have x_6 := ext_trans x_5 hb6
      clear p0_0''''' p1_0'''''
      have p0_0''''''' : (w6.alloc (.cells #[.slice B0_06 d0.length cB0_06] 33)).cell? ⟨w.heap.size, 0, none⟩ = some (.slice A0_0 d0.length cA0_0) := ck (ext_alloc1 _ _) p0_0''''''
      have p1_0''''''' : (w6.alloc (.cells #[.slice B0_06 d0.length cB0_06] 33)).cell? ⟨w.heap.size + 1, 0, none⟩ = some (.slice A1_0 d1.length cA1_0) := ck (ext_alloc1 _ _) p1_0''''''
      have hQ6' : pathT.O _ (w6.alloc (.cells #[.slice B0_06 d0.length cB0_06] 33)) _ _ _ := pathT.obelow hQ6 (ext_alloc1 _ _)
      clear p0_0'''''' p1_0'''''' hQ6
      have x_6' : Below w.heap.size w (w6.alloc (.cells #[.slice B0_06 d0.length cB0_06] 33)) := ext_alloc x_6 _
      have q0_0 : (w6.alloc (.cells #[.slice B0_06 d0.length cB0_06] 33)).cell? ⟨w6.heap.size, 0, none⟩ = some (.slice B0_06 d0.length cB0_06) := by simp
      go_wp2_with (fail)
      refine (to_path d1 _ _ (pathT.kp h1 (x_6')) sz1).mono ?_
      rintro e w7 ⟨cq7, fq7, rfl, hQ7, hb7⟩
      obtain ⟨B1_07, cB1_07, fB1_07, rfl, _⟩ := path_oform hQ7
      have p0_0'''''''' := ck hb7 p0_0'''''''
      have p1_0'''''''' := ck hb7 p1_0'''''''
      have q0_0' := ck hb7 q0_0
      have x_7 := ext_trans x_6' hb7
      have hQ6'' := pathT.obelow hQ6' hb7
      clear p0_0''''''' p1_0''''''' q0_0 hQ6'
      have p0_0''''''''' : (w7.alloc (.cells #[.slice B1_07 d1.length cB1_07] 33)).cell? ⟨w.heap.size, 0, none⟩ = some (.slice A0_0 d0.length cA0_0) := ck (ext_alloc1 _ _) p0_0''''''''
      have p1_0''''''''' : (w7.alloc (.cells #[.slice B1_07 d1.length cB1_07] 33)).cell? ⟨w.heap.size + 1, 0, none⟩ = some (.slice A1_0 d1.length cA1_0) := ck (ext_alloc1 _ _) p1_0''''''''
      have q0_0'' : (w7.alloc (.cells #[.slice B1_07 d1.length cB1_07] 33)).cell? ⟨w6.heap.size, 0, none⟩ = some (.slice B0_06 d0.length cB0_06) := ck (ext_alloc1 _ _) q0_0'
      have hQ6''' : pathT.O _ (w7.alloc (.cells #[.slice B1_07 d1.length cB1_07] 33)) _ _ _ := pathT.obelow hQ6'' (ext_alloc1 _ _)
      have hQ7' : pathT.O _ (w7.alloc (.cells #[.slice B1_07 d1.length cB1_07] 33)) _ _ _ := pathT.obelow hQ7 (ext_alloc1 _ _)
      clear p0_0'''''''' p1_0'''''''' q0_0' hQ6'' hQ7
      have x_7' : Below w.heap.size w (w7.alloc (.cells #[.slice B1_07 d1.length cB1_07] 33)) := ext_alloc x_7 _
      have q1_0 : (w7.alloc (.cells #[.slice B1_07 d1.length cB1_07] 33)).cell? ⟨w7.heap.size, 0, none⟩ = some (.slice B1_07 d1.length cB1_07) := by simp
      go_wp2_with (fail)
      refine (impl_SharedInterfaces d0 _ d1 _ _ (pathT.rd hQ6''') sz0 l0 G0.out (pathT.rd hQ7') sz1 l1 G1.out).mono ?_
      rintro e w8 ⟨rfl, hb8⟩
      have p0_0'''''''''' := ck hb8 p0_0'''''''''
      have p1_0'''''''''' := ck hb8 p1_0'''''''''
      have q0_0''' := ck hb8 q0_0''
      have q1_0' := ck hb8 q1_0
      have x_8 := ext_trans x_7' hb8
      have hQ6'''' := pathT.obelow hQ6''' hb8
      have hQ7'' := pathT.obelow hQ7' hb8
      clear p0_0''''''''' p1_0''''''''' q0_0'' q1_0 hQ6''' hQ7'
      go_wp2_with (fail)
      go_region_held3 (fun w' => w'.cell? ⟨w.heap.size, 0, none⟩ = some (.slice A0_0 d0.length cA0_0) ∧ w'.cell? ⟨w.heap.size + 1, 0, none⟩ = some (.slice A1_0 d1.length cA1_0) ∧ w'.cell? ⟨w6.heap.size, 0, none⟩ = some (.slice B0_06 d0.length cB0_06) ∧ w'.cell? ⟨w7.heap.size, 0, none⟩ = some (.slice B1_07 d1.length cB1_07)) (first | exact ⟨p0_0'''''''''', p1_0'''''''''', q0_0''', q1_0'⟩ | exact ⟨p0_0''''''''''', p1_0''''''''''', q0_0'''', q1_0''⟩ | exact ⟨p0_0'''''''''''', p1_0'''''''''''', q0_0''''', q1_0'''⟩) (first
        | (go_at_call 19; refine (to_path d0 _ _ (pathT.kp h0 (x_8.drew)) sz0).mono ?_; rintro e w9 ⟨cq9, fq9, rfl, hQ9, hb9⟩; obtain ⟨B0_09, cB0_09, fB0_09, rfl, _⟩ := path_oform hQ9; have p0_0''''''''''' := ck hb9 (show w8.drew.cell? ⟨w.heap.size, 0, none⟩ = _ from p0_0''''''''''); have p1_0''''''''''' := ck hb9 (show w8.drew.cell? ⟨w.heap.size + 1, 0, none⟩ = _ from p1_0''''''''''); have q0_0'''' := ck hb9 (show w8.drew.cell? ⟨w6.heap.size, 0, none⟩ = _ from q0_0'''); have q1_0'' := ck hb9 (show w8.drew.cell? ⟨w7.heap.size, 0, none⟩ = _ from q1_0'); have x_9 := ext_trans x_8.drew hb9; have hQ6''''' := pathT.obelow (pathT.obelow hQ6'''' (below_drew _)) hb9; have hQ7''' := pathT.obelow (pathT.obelow hQ7'' (below_drew _)) hb9)
        | (go_at_call 22; refine (eq_path d0 _ _ _ (pathT.rd hQ6''''') (pathT.rd hQ9) sz0).mono ?_; rintro e w10 ⟨rfl, hb10⟩; have p0_0'''''''''''' := ck hb10 p0_0'''''''''''; have p1_0'''''''''''' := ck hb10 p1_0'''''''''''; have q0_0''''' := ck hb10 q0_0''''; have q1_0''' := ck hb10 q1_0''; have x_10 := ext_trans x_9 hb10; have hQ6'''''' := pathT.obelow hQ6''''' hb10; have hQ7'''' := pathT.obelow hQ7''' hb10; have hQ9' := pathT.obelow hQ9 hb10))
      go_wp2_with (fail)
      go_region_held3 (fun w' => w'.cell? ⟨w.heap.size, 0, none⟩ = some (.slice A0_0 d0.length cA0_0) ∧ w'.cell? ⟨w.heap.size + 1, 0, none⟩ = some (.slice A1_0 d1.length cA1_0) ∧ w'.cell? ⟨w6.heap.size, 0, none⟩ = some (.slice B0_06 d0.length cB0_06) ∧ w'.cell? ⟨w7.heap.size, 0, none⟩ = some (.slice B1_07 d1.length cB1_07)) (first | exact ⟨p0_0'''''''''''', p1_0'''''''''''', q0_0''''', q1_0'''⟩ | exact ⟨p0_0''''''''''''', p1_0''''''''''''', q0_0'''''', q1_0''''⟩ | exact ⟨p0_0'''''''''''''', p1_0'''''''''''''', q0_0''''''', q1_0'''''⟩) (first
        | (go_at_call 19; refine (to_path d1 _ _ (pathT.kp h1 (x_10.drew)) sz1).mono ?_; rintro e w11 ⟨cq11, fq11, rfl, hQ11, hb11⟩; obtain ⟨B1_011, cB1_011, fB1_011, rfl, _⟩ := path_oform hQ11; have p0_0''''''''''''' := ck hb11 (show w10.drew.cell? ⟨w.heap.size, 0, none⟩ = _ from p0_0''''''''''''); have p1_0''''''''''''' := ck hb11 (show w10.drew.cell? ⟨w.heap.size + 1, 0, none⟩ = _ from p1_0''''''''''''); have q0_0'''''' := ck hb11 (show w10.drew.cell? ⟨w6.heap.size, 0, none⟩ = _ from q0_0'''''); have q1_0'''' := ck hb11 (show w10.drew.cell? ⟨w7.heap.size, 0, none⟩ = _ from q1_0'''); have x_11 := ext_trans x_10.drew hb11; have hQ6''''''' := pathT.obelow (pathT.obelow hQ6'''''' (below_drew _)) hb11; have hQ7''''' := pathT.obelow (pathT.obelow hQ7'''' (below_drew _)) hb11)
        | (go_at_call 22; refine (eq_path d1 _ _ _ (pathT.rd hQ7''''') (pathT.rd hQ11) sz1).mono ?_; rintro e w12 ⟨rfl, hb12⟩; have p0_0'''''''''''''' := ck hb12 p0_0'''''''''''''; have p1_0'''''''''''''' := ck hb12 p1_0'''''''''''''; have q0_0''''''' := ck hb12 q0_0''''''; have q1_0''''' := ck hb12 q1_0''''; have x_12 := ext_trans x_11 hb12; have hQ6'''''''' := pathT.obelow hQ6''''''' hb12; have hQ7'''''' := pathT.obelow hQ7''''' hb12; have hQ11' := pathT.obelow hQ11 hb12))
      go_wp2_with (fail)
      go_ret
      exact ⟨rfl, x_12⟩
    ·
      go_enter Try.func11, Try.ntmps11
      have p0_0 : ((w.alloc (.cells #[.slice A0_0 d0.length cA0_0] 25)).alloc (.cells #[.slice A1_0 d1.length cA1_0] 25)).cell? ⟨w.heap.size, 0, none⟩ = some (.slice A0_0 d0.length cA0_0) := by simp
      have p1_0 : ((w.alloc (.cells #[.slice A0_0 d0.length cA0_0] 25)).alloc (.cells #[.slice A1_0 d1.length cA1_0] 25)).cell? ⟨w.heap.size + 1, 0, none⟩ = some (.slice A1_0 d1.length cA1_0) := by simp
      go_wp2_with (fail)
      refine (szc_path d0 _ (1048576) _ (pathT.kp h0 x0) (by omega) (by omega) l0).mono ?_
      rintro e w1 ⟨rfl, hb1⟩
      rw [szI_yes (by omega)]
      have p0_0' := ck hb1 p0_0
      have p1_0' := ck hb1 p1_0
      have x_1 := ext_trans x0 hb1
      clear p0_0 p1_0
      go_wp2_with (fail)
      refine (szc_path d1 _ (1048576 - sz_path d0) _ (pathT.kp h1 x_1) (by omega) (by omega) l1).mono ?_
      rintro e w2 ⟨rfl, hb2⟩
      rw [szI_no (by omega)]
      have p0_0'' := ck hb2 p0_0'
      have p1_0'' := ck hb2 p1_0'
      have x_2 := ext_trans x_1 hb2
      clear p0_0' p1_0'
      go_wp2_with (fail)
      go_ret
      exact ⟨rfl, x_2⟩
  ·
    go_enter Try.func11, Try.ntmps11
    have p0_0 : ((w.alloc (.cells #[.slice A0_0 d0.length cA0_0] 25)).alloc (.cells #[.slice A1_0 d1.length cA1_0] 25)).cell? ⟨w.heap.size, 0, none⟩ = some (.slice A0_0 d0.length cA0_0) := by simp
    have p1_0 : ((w.alloc (.cells #[.slice A0_0 d0.length cA0_0] 25)).alloc (.cells #[.slice A1_0 d1.length cA1_0] 25)).cell? ⟨w.heap.size + 1, 0, none⟩ = some (.slice A1_0 d1.length cA1_0) := by simp
    go_wp2_with (fail)
    refine (szc_path d0 _ (1048576) _ (pathT.kp h0 x0) (by omega) (by omega) l0).mono ?_
    rintro e w1 ⟨rfl, hb1⟩
    rw [szI_no (by omega)]
    have p0_0' := ck hb1 p0_0
    have p1_0' := ck hb1 p1_0
    have x_1 := ext_trans x0 hb1
    clear p0_0 p1_0
    go_wp2_with (fail)
    go_ret
    exact ⟨rfl, x_1⟩

namespace fnExactSharedInterfaces
open Go.ChangeShapes Go.WideShapes Go.ChangeAt

set_option maxRecDepth 100000 in
theorem lifted (os : Os) (started : os.Started) (H : Type) (enc : TypeId × Value → H) :
    ReturnsInHanded {} Try.checked os 11 .any (Rows.fnExactSharedInterfacesSpec.pre6 enc Try.prog Try.f11 Rows.fnExactSharedInterfacesRow.domain false) (Rows.fnExactSharedInterfacesSpec.post enc Try.prog Try.f11 false true false false) := by
  refine returnsInHanded_of_change (C := Try.checked) knob started (by kernel_rfl) Try.func11
    (ChangeSpec.witness6 (enc := enc) (C := Try.checked) false ⟨#[], #[.agg #[.slice none 0 0], .agg #[.slice none 0 0]], []⟩ 8 (by kernel_rfl) (by kernel_rfl) (by kernel_rfl) (by kernel_rfl)) ?_
  intro W base args ds gs before hval0 hW hcnd _
  have hval : ∀ (j : Nat) t v, Try.f11.params[j]? = some t → args[j]? = some v → Value.okWide Try.prog W .any base t v := hval0
  have hW' := hW
  obtain ⟨p, q, hA0, hV, rfl, hfz, hnd⟩ := hW
  have hA : DataW.TrodAll enc Try.prog W 0 (fun _ => true) true Try.f11.params.toList args.toList ds p := hA0
  rw [Try.params11] at hA hval
  obtain ⟨v0, vs0, d0, ds0, p0, q0, hargs, rfl, rfl, h0, r0⟩ := trodAll_cons hA
  obtain ⟨v1, vs1, d1, ds1, p1, q1, rfl, rfl, rfl, h1, r1⟩ := trodAll_cons r0
  obtain ⟨rfl, rfl, rfl⟩ := trodAll_nil r1
  obtain rfl : args = #[v0, v1] := by cases args; simp_all
  obtain ⟨rfl, rfl⟩ := trodVars_none hV
  have k0 := h0
  have lt0 : ∀ x ∈ p0, x.block < W.heap.size := by obtain ⟨m, hm⟩ := k0; exact DataW.trod_lt m _ _ _ hm
  obtain ⟨cs0, x0, rfl, R0, L0, G0⟩ := open_path (hval 0 25 v0 rfl rfl) h0
  have k1 := h1
  have lt1 : ∀ x ∈ p1, x.block < W.heap.size := by obtain ⟨m, hm⟩ := k1; exact DataW.trod_lt m _ _ _ hm
  obtain ⟨cs1, x1, rfl, R1, L1, G1⟩ := open_path (hval 1 25 v1 rfl rfl) h1
  clear hA0 hval0
  refine (lawSharedInterfaces x0 _ x1 _ W R0 L0 G0 R1 L1 G1).mono fun e W' ⟨he, bel⟩ => ?_
  subst he
  exact ⟨_, rfl, _, _, _, [], _, [], hW', trodAll_mk1 (shut_bool Try.underlying4 _), (trodAll_cons_mk (Below.trod laidOut (by kernel_rfl) (of_decide_eq_true (by kernel_rfl)) k0 bel lt0) (trodAll_cons_mk (Below.trod laidOut (by kernel_rfl) (of_decide_eq_true (by kernel_rfl)) k1 bel lt1) trodAll_mk0)), rfl, bel.frame _, fun h => by cases h⟩

theorem over : Rows.fnExactSharedInterfacesRow.holds Try.pinned (OpenSpec.ofChange Rows.fnExactSharedInterfacesSpec) :=
  OpenClaim.holds_of_wide 11 Try.f11 rfl rfl rfl rfl rfl rfl rfl ⟨rfl, rfl, rfl, rfl, rfl⟩ rfl rfl rfl rfl rfl (by kernel_rfl) Try.func11 (by kernel_rfl)
    (of_decide_eq_true (by kernel_rfl)) (by unfold Func.isWrapper; first | (rw [if_pos (by decide +kernel)]; kernel_rfl) | (rw [if_neg (by decide +kernel)]; exact ⟨rfl, rfl⟩))
    (fun os started H enc _ => lifted os started H enc)

theorem proved : Rows.FnExactSharedInterfacesSaid := over
#print axioms proved
end fnExactSharedInterfaces
end Go.Proofs.Ytailmflghbdglaa
