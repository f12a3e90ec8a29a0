/- laws.FnExactHasPath returns true, for all arguments: the walk of the law out of contracts, and the row. No condition. (Printed by lawgen.py.) -/
import Derived.Test.YtailmflghbdglaaPathLists
import Derived.Test.YtailmflghbdglaaFamPaths
import Derived.Test.YtailmflghbdglaaOpen
import Derived.Deep.RegionHeld3
namespace Go.Proofs.Ytailmflghbdglaa
open Go.RowKit
set_option linter.unusedVariables false

set_option maxHeartbeats 2000000 in
set_option maxRecDepth 100000 in
theorem lawHasPath (d0 : List Path) (v0 : Value) (d1 : Path) (cs1 : List Value) (w : World) (h0 : SlR pathT w v0 d0) (l0 : d0.length ≤ 9223372036854775807 ∧ ∀ x ∈ d0, lenOk_path x) (g0 : ∀ x ∈ d0, rng_path x) (h1 : pathT.R w cs1 d1) (l1 : lenOk_path d1) (g1 : rng_path d1) :
    Calls Try.prog 3 #[v0, .agg cs1.toArray] w fun r w' => r = .returned (.bool true) ∧ Below w.heap.size w w' := by
  obtain ⟨A0, c0, rfl, _⟩ := h0.form
  have G0 := hid g0
  clear g0
  obtain ⟨A1_0, cA1_0, rfl, _⟩ := path_form h1
  have G1 := hid g1
  clear g1
  have x0 : Below w.heap.size w (w.alloc (.cells #[.slice A1_0 d1.length cA1_0] 25)) := by repeat (first | refine ext_alloc ?_ _ | exact Below.refl _ _)
  by_cases z0 : (sz_paths d0 : Int) ≤ 1048576
  · have y0 : ¬ 1048576 - (sz_paths d0 : Int) < 0 := by omega
    by_cases z1 : (sz_path d1 : Int) ≤ 1048576 - sz_paths d0
    · have y1 : ¬ 1048576 - sz_paths d0 - (sz_path d1 : Int) < 0 := by omega
      go_enter Try.func3, Try.ntmps3
      have p1_0 : (w.alloc (.cells #[.slice A1_0 d1.length cA1_0] 25)).cell? ⟨w.heap.size, 0, none⟩ = some (.slice A1_0 d1.length cA1_0) := by simp
      go_wp2_with (fail)
      refine (szc_pathS d0 _ (1048576) _ (h0.below x0) (by omega) (by omega) l0.1 l0.2).mono ?_
      rintro e w1 ⟨rfl, hb1⟩
      rw [szI_yes (by omega)]
      have p1_0' := ck hb1 p1_0
      have x_1 := ext_trans x0 hb1
      clear p1_0
      go_wp2_with (fail)
      refine (szc_path d1 _ (1048576 - sz_paths d0) _ (pathT.kp h1 x_1) (by omega) (by omega) l1).mono ?_
      rintro e w2 ⟨rfl, hb2⟩
      rw [szI_yes (by omega)]
      have p1_0'' := ck hb2 p1_0'
      have x_2 := ext_trans x_1 hb2
      clear p1_0'
      have sz0 : sz_paths d0 ≤ 1048576 := by omega
      have sz1 : sz_path d1 ≤ 1048576 := by omega
      go_wp2_with (fail)
      go_region_held3 (fun w' => w'.cell? ⟨w.heap.size, 0, none⟩ = some (.slice A1_0 d1.length cA1_0)) (first | exact p1_0'' | exact p1_0''' | exact p1_0'''' | exact p1_0''''') (first
        | (go_at_call 18; refine (to_pathS d0 _ _ (h0.below (x_2.drew)) sz0).mono ?_; rintro e w3 ⟨vq3, fq3, rfl, hQ3, hb3⟩; obtain ⟨B03, cB03, rfl, _⟩ := hQ3.form; have p1_0''' := ck hb3 (show w2.drew.cell? ⟨w.heap.size, 0, none⟩ = _ from p1_0''); have x_3 := ext_trans x_2.drew hb3)
        | (go_at_call 19; refine (to_path d1 _ _ (pathT.kp h1 (x_3)) sz1).mono ?_; rintro e w4 ⟨cq4, fq4, rfl, hQ4, hb4⟩; obtain ⟨B1_04, cB1_04, fB1_04, rfl, _⟩ := path_oform hQ4; have p1_0'''' := ck hb4 p1_0'''; have x_4 := ext_trans x_3 hb4; have hQ3' := hQ3.below hb4)
        | (go_at_call 17; refine (spec_HasPath d0 _ d1 _ _ hQ3'.read sz0 l0 G0.out (pathT.rd hQ4) sz1 l1 G1.out).mono ?_; rintro e w5 ⟨rfl, hb5⟩; have p1_0''''' := ck hb5 p1_0''''; have x_5 := ext_trans x_4 hb5; have hQ3'' := hQ3'.below hb5; have hQ4' := pathT.obelow hQ4 hb5))
      go_wp2_with (fail)
      refine (to_pathS d0 _ _ (h0.below (x_5)) sz0).mono ?_
      rintro e w6 ⟨vq6, fq6, rfl, hQ6, hb6⟩
      obtain ⟨B06, cB06, rfl, _⟩ := hQ6.form
      have p1_0'''''' := ck hb6 p1_0'''''
      have x_6 := ext_trans x_5 hb6
      clear p1_0'''''
      go_wp2_with (fail)
      refine (to_path d1 _ _ (pathT.kp h1 (x_6)) sz1).mono ?_
      rintro e w7 ⟨cq7, fq7, rfl, hQ7, hb7⟩
      obtain ⟨B1_07, cB1_07, fB1_07, rfl, _⟩ := path_oform hQ7
      have p1_0''''''' := ck hb7 p1_0''''''
      have x_7 := ext_trans x_6 hb7
      have hQ6' := hQ6.below hb7
      clear p1_0'''''' hQ6
      have p1_0'''''''' : (w7.alloc (.cells #[.slice B1_07 d1.length cB1_07] 33)).cell? ⟨w.heap.size, 0, none⟩ = some (.slice A1_0 d1.length cA1_0) := ck (ext_alloc1 _ _) p1_0'''''''
      have hQ6'' : SlO pathT 33 _ (w7.alloc (.cells #[.slice B1_07 d1.length cB1_07] 33)) _ _ _ := hQ6'.alloc _
      have hQ7' : pathT.O _ (w7.alloc (.cells #[.slice B1_07 d1.length cB1_07] 33)) _ _ _ := pathT.obelow hQ7 (ext_alloc1 _ _)
      clear p1_0''''''' hQ6' hQ7
      have x_7' : Below w.heap.size w (w7.alloc (.cells #[.slice B1_07 d1.length cB1_07] 33)) := ext_alloc x_7 _
      have q1_0 : (w7.alloc (.cells #[.slice B1_07 d1.length cB1_07] 33)).cell? ⟨w7.heap.size, 0, none⟩ = some (.slice B1_07 d1.length cB1_07) := by simp
      go_wp2_with (fail)
      refine (impl_HasPath d0 _ d1 _ _ hQ6''.read sz0 l0 G0.out (pathT.rd hQ7') sz1 l1 G1.out).mono ?_
      rintro e w8 ⟨rfl, hb8⟩
      have p1_0''''''''' := ck hb8 p1_0''''''''
      have q1_0' := ck hb8 q1_0
      have x_8 := ext_trans x_7' hb8
      have hQ6''' := hQ6''.below hb8
      have hQ7'' := pathT.obelow hQ7' hb8
      clear p1_0'''''''' q1_0 hQ6'' hQ7'
      go_wp2_with (fail)
      refine (to_pathS d0 _ _ (h0.below (x_8)) sz0).mono ?_
      rintro e w9 ⟨vq9, fq9, rfl, hQ9, hb9⟩
      obtain ⟨B09, cB09, rfl, _⟩ := hQ9.form
      have p1_0'''''''''' := ck hb9 p1_0'''''''''
      have q1_0'' := ck hb9 q1_0'
      have x_9 := ext_trans x_8 hb9
      have hQ6'''' := hQ6'''.below hb9
      have hQ7''' := pathT.obelow hQ7'' hb9
      clear p1_0''''''''' q1_0' hQ6''' hQ7''
      go_wp2_with (fail)
      refine (eq_pathS d0 _ _ _ hQ6''''.read hQ9.read sz0).mono ?_
      rintro e w10 ⟨rfl, hb10⟩
      have p1_0''''''''''' := ck hb10 p1_0''''''''''
      have q1_0''' := ck hb10 q1_0''
      have x_10 := ext_trans x_9 hb10
      have hQ6''''' := hQ6''''.below hb10
      have hQ7'''' := pathT.obelow hQ7''' hb10
      clear p1_0'''''''''' q1_0'' hQ6'''' hQ7'''
      have hQ9' := hQ9.below hb10
      go_wp2_with (fail)
      go_region_held3 (fun w' => w'.cell? ⟨w.heap.size, 0, none⟩ = some (.slice A1_0 d1.length cA1_0) ∧ w'.cell? ⟨w7.heap.size, 0, none⟩ = some (.slice B1_07 d1.length cB1_07)) (first | exact ⟨p1_0''''''''''', q1_0'''⟩ | exact ⟨p1_0'''''''''''', q1_0''''⟩ | exact ⟨p1_0''''''''''''', q1_0'''''⟩) (first
        | (go_at_call 19; refine (to_path d1 _ _ (pathT.kp h1 (x_10.drew)) sz1).mono ?_; rintro e w11 ⟨cq11, fq11, rfl, hQ11, hb11⟩; obtain ⟨B1_011, cB1_011, fB1_011, rfl, _⟩ := path_oform hQ11; have p1_0'''''''''''' := ck hb11 (show w10.drew.cell? ⟨w.heap.size, 0, none⟩ = _ from p1_0'''''''''''); have q1_0'''' := ck hb11 (show w10.drew.cell? ⟨w7.heap.size, 0, none⟩ = _ from q1_0'''); have x_11 := ext_trans x_10.drew hb11; have hQ6'''''' := (hQ6'''''.drew).below hb11; have hQ7''''' := pathT.obelow (pathT.obelow hQ7'''' (below_drew _)) hb11)
        | (go_at_call 22; refine (eq_path d1 _ _ _ (pathT.rd hQ7''''') (pathT.rd hQ11) sz1).mono ?_; rintro e w12 ⟨rfl, hb12⟩; have p1_0''''''''''''' := ck hb12 p1_0''''''''''''; have q1_0''''' := ck hb12 q1_0''''; have x_12 := ext_trans x_11 hb12; have hQ6''''''' := hQ6''''''.below hb12; have hQ7'''''' := pathT.obelow hQ7''''' hb12; have hQ11' := pathT.obelow hQ11 hb12))
      go_wp2_with (fail)
      go_ret
      exact ⟨rfl, x_12⟩
    ·
      go_enter Try.func3, Try.ntmps3
      have p1_0 : (w.alloc (.cells #[.slice A1_0 d1.length cA1_0] 25)).cell? ⟨w.heap.size, 0, none⟩ = some (.slice A1_0 d1.length cA1_0) := by simp
      go_wp2_with (fail)
      refine (szc_pathS d0 _ (1048576) _ (h0.below x0) (by omega) (by omega) l0.1 l0.2).mono ?_
      rintro e w1 ⟨rfl, hb1⟩
      rw [szI_yes (by omega)]
      have p1_0' := ck hb1 p1_0
      have x_1 := ext_trans x0 hb1
      clear p1_0
      go_wp2_with (fail)
      refine (szc_path d1 _ (1048576 - sz_paths d0) _ (pathT.kp h1 x_1) (by omega) (by omega) l1).mono ?_
      rintro e w2 ⟨rfl, hb2⟩
      rw [szI_no (by omega)]
      have p1_0'' := ck hb2 p1_0'
      have x_2 := ext_trans x_1 hb2
      clear p1_0'
      go_wp2_with (fail)
      go_ret
      exact ⟨rfl, x_2⟩
  ·
    go_enter Try.func3, Try.ntmps3
    have p1_0 : (w.alloc (.cells #[.slice A1_0 d1.length cA1_0] 25)).cell? ⟨w.heap.size, 0, none⟩ = some (.slice A1_0 d1.length cA1_0) := by simp
    go_wp2_with (fail)
    refine (szc_pathS d0 _ (1048576) _ (h0.below x0) (by omega) (by omega) l0.1 l0.2).mono ?_
    rintro e w1 ⟨rfl, hb1⟩
    rw [szI_no (by omega)]
    have p1_0' := ck hb1 p1_0
    have x_1 := ext_trans x0 hb1
    clear p1_0
    go_wp2_with (fail)
    go_ret
    exact ⟨rfl, x_1⟩

namespace fnExactHasPath
open Go.ChangeShapes Go.WideShapes Go.ChangeAt

set_option maxRecDepth 100000 in
theorem lifted (os : Os) (started : os.Started) (H : Type) (enc : TypeId × Value → H) :
    ReturnsInHanded {} Try.checked os 3 .any (Rows.fnExactHasPathSpec.pre6 enc Try.prog Try.f3 Rows.fnExactHasPathRow.domain false) (Rows.fnExactHasPathSpec.post enc Try.prog Try.f3 false true false false) := by
  refine returnsInHanded_of_change (C := Try.checked) knob started (by kernel_rfl) Try.func3
    (ChangeSpec.witness6 (enc := enc) (C := Try.checked) false ⟨#[], #[.slice none 0 0, .agg #[.slice none 0 0]], []⟩ 8 (by kernel_rfl) (by kernel_rfl) (by kernel_rfl) (by kernel_rfl)) ?_
  intro W base args ds gs before hval0 hW hcnd _
  have hval : ∀ (j : Nat) t v, Try.f3.params[j]? = some t → args[j]? = some v → Value.okWide Try.prog W .any base t v := hval0
  have hW' := hW
  obtain ⟨p, q, hA0, hV, rfl, hfz, hnd⟩ := hW
  have hA : DataW.TrodAll enc Try.prog W 0 (fun _ => true) true Try.f3.params.toList args.toList ds p := hA0
  rw [Try.params3] at hA hval
  obtain ⟨v0, vs0, d0, ds0, p0, q0, hargs, rfl, rfl, h0, r0⟩ := trodAll_cons hA
  obtain ⟨v1, vs1, d1, ds1, p1, q1, rfl, rfl, rfl, h1, r1⟩ := trodAll_cons r0
  obtain ⟨rfl, rfl, rfl⟩ := trodAll_nil r1
  obtain rfl : args = #[v0, v1] := by cases args; simp_all
  obtain ⟨rfl, rfl⟩ := trodVars_none hV
  have k0 := h0
  have lt0 : ∀ x ∈ p0, x.block < W.heap.size := by obtain ⟨m, hm⟩ := k0; exact DataW.trod_lt m _ _ _ hm
  obtain ⟨x0, R0, L0, G0⟩ := open_pathS (hval 0 22 v0 rfl rfl) h0
  have k1 := h1
  have lt1 : ∀ x ∈ p1, x.block < W.heap.size := by obtain ⟨m, hm⟩ := k1; exact DataW.trod_lt m _ _ _ hm
  obtain ⟨cs1, x1, rfl, R1, L1, G1⟩ := open_path (hval 1 25 v1 rfl rfl) h1
  clear hA0 hval0
  refine (lawHasPath x0 _ x1 _ W R0 L0 G0 R1 L1 G1).mono fun e W' ⟨he, bel⟩ => ?_
  subst he
  exact ⟨_, rfl, _, _, _, [], _, [], hW', trodAll_mk1 (shut_bool Try.underlying4 _), (trodAll_cons_mk (Below.trod laidOut (by kernel_rfl) (of_decide_eq_true (by kernel_rfl)) k0 bel lt0) (trodAll_cons_mk (Below.trod laidOut (by kernel_rfl) (of_decide_eq_true (by kernel_rfl)) k1 bel lt1) trodAll_mk0)), rfl, bel.frame _, fun h => by cases h⟩

theorem over : Rows.fnExactHasPathRow.holds Try.pinned (OpenSpec.ofChange Rows.fnExactHasPathSpec) :=
  OpenClaim.holds_of_wide 3 Try.f3 rfl rfl rfl rfl rfl rfl rfl ⟨rfl, rfl, rfl, rfl, rfl⟩ rfl rfl rfl rfl rfl (by kernel_rfl) Try.func3 (by kernel_rfl)
    (of_decide_eq_true (by kernel_rfl)) (by unfold Func.isWrapper; first | (rw [if_pos (by decide +kernel)]; kernel_rfl) | (rw [if_neg (by decide +kernel)]; exact ⟨rfl, rfl⟩))
    (fun os started H enc _ => lifted os started H enc)

theorem proved : Rows.FnExactHasPathSaid := over
#print axioms proved
end fnExactHasPath
end Go.Proofs.Ytailmflghbdglaa
