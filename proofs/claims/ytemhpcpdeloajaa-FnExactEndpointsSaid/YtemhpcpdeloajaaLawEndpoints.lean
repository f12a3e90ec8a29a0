/- laws.FnExactEndpoints returns true, for all arguments: the walk of the law out of contracts, and the row. No condition. (Printed by lawgen.py.) -/
import Derived.Test.YtemhpcpdeloajaaLengths
import Derived.Test.YtemhpcpdeloajaaFamPath
import Derived.Test.YtemhpcpdeloajaaOpen
import Derived.Deep.RegionHeld3
namespace Go.Proofs.Ytemhpcpdeloajaa
open Go.RowKit
set_option linter.unusedVariables false

set_option maxHeartbeats 2000000 in
set_option maxRecDepth 100000 in
theorem lawEndpoints (d0 : Path) (cs0 : List Value) (w : World) (h0 : pathT.R w cs0 d0) (l0 : lenOk_path d0) (g0 : rng_path d0) :
    Calls Try.prog 14 #[.agg cs0.toArray] w fun r w' => r = .returned (.bool true) ∧ Below w.heap.size w w' := by
  obtain ⟨A0_0, cA0_0, rfl, _⟩ := path_form h0
  have G0 := hid g0
  clear g0
  have x0 : Below w.heap.size w (w.alloc (.cells #[.slice A0_0 d0.length cA0_0] 27)) := by repeat (first | refine ext_alloc ?_ _ | exact Below.refl _ _)
  by_cases z0 : (sz_path d0 : Int) ≤ 1048576
  · have y0 : ¬ 1048576 - (sz_path d0 : Int) < 0 := by omega
    go_enter Try.func14, Try.ntmps14
    have p0_0 : (w.alloc (.cells #[.slice A0_0 d0.length cA0_0] 27)).cell? ⟨w.heap.size, 0, none⟩ = some (.slice A0_0 d0.length cA0_0) := by simp
    go_wp2_with (fail)
    refine (szc_path d0 _ (1048576) _ (pathT.kp h0 x0) (by omega) (by omega) l0).mono ?_
    rintro e w1 ⟨rfl, hb1⟩
    rw [szI_yes (by omega)]
    have p0_0' := ck hb1 p0_0
    have x_1 := ext_trans x0 hb1
    clear p0_0
    have sz0 : sz_path d0 ≤ 1048576 := by omega
    go_wp2_with (fail)
    refine (to_path d0 _ _ (pathT.kp h0 (x_1)) sz0).mono ?_
    rintro e w2 ⟨cq2, fq2, rfl, hQ2, hb2⟩
    obtain ⟨B0_02, cB0_02, fB0_02, rfl, _⟩ := path_oform hQ2
    have p0_0'' := ck hb2 p0_0'
    have x_2 := ext_trans x_1 hb2
    clear p0_0'
    go_wp2_with (fail)
    refine (spec_Endpoints d0 _ _ (pathT.rd hQ2) sz0 l0 G0.out).mono ?_
    rintro e w3 ⟨rfl, hb3⟩
    have p0_0''' := ck hb3 p0_0''
    have x_3 := ext_trans x_2 hb3
    clear p0_0''
    have hQ2' := pathT.obelow hQ2 hb3
    go_wp2_with (fail)
    refine (to_path d0 _ _ (pathT.kp h0 (x_3)) sz0).mono ?_
    rintro e w4 ⟨cq4, fq4, rfl, hQ4, hb4⟩
    obtain ⟨B0_04, cB0_04, fB0_04, rfl, _⟩ := path_oform hQ4
    have p0_0'''' := ck hb4 p0_0'''
    have x_4 := ext_trans x_3 hb4
    clear p0_0'''
    have p0_0''''' : (w4.alloc (.cells #[.slice B0_04 d0.length cB0_04] 32)).cell? ⟨w.heap.size, 0, none⟩ = some (.slice A0_0 d0.length cA0_0) := ck (ext_alloc1 _ _) p0_0''''
    have hQ4' : pathT.O _ (w4.alloc (.cells #[.slice B0_04 d0.length cB0_04] 32)) _ _ _ := pathT.obelow hQ4 (ext_alloc1 _ _)
    clear p0_0'''' hQ4
    have x_4' : Below w.heap.size w (w4.alloc (.cells #[.slice B0_04 d0.length cB0_04] 32)) := ext_alloc x_4 _
    have q0_0 : (w4.alloc (.cells #[.slice B0_04 d0.length cB0_04] 32)).cell? ⟨w4.heap.size, 0, none⟩ = some (.slice B0_04 d0.length cB0_04) := by simp
    go_wp2_with (fail)
    refine (impl_Endpoints d0 _ _ (pathT.rd hQ4') sz0 l0 G0.out).mono ?_
    rintro e w5 ⟨rfl, hb5⟩
    have p0_0'''''' := ck hb5 p0_0'''''
    have q0_0' := ck hb5 q0_0
    have x_5 := ext_trans x_4' hb5
    have hQ4'' := pathT.obelow hQ4' hb5
    clear p0_0''''' q0_0 hQ4'
    go_wp2_with (fail)
    go_region_held3 (fun w' => w'.cell? ⟨w.heap.size, 0, none⟩ = some (.slice A0_0 d0.length cA0_0) ∧ w'.cell? ⟨w4.heap.size, 0, none⟩ = some (.slice B0_04 d0.length cB0_04)) (first | exact ⟨p0_0'''''', q0_0'⟩ | exact ⟨p0_0''''''', q0_0''⟩ | exact ⟨p0_0'''''''', q0_0'''⟩) (first
      | (go_at_call 21; refine (to_path d0 _ _ (pathT.kp h0 (x_5.drew)) sz0).mono ?_; rintro e w6 ⟨cq6, fq6, rfl, hQ6, hb6⟩; obtain ⟨B0_06, cB0_06, fB0_06, rfl, _⟩ := path_oform hQ6; have p0_0''''''' := ck hb6 (show w5.drew.cell? ⟨w.heap.size, 0, none⟩ = _ from p0_0''''''); have q0_0'' := ck hb6 (show w5.drew.cell? ⟨w4.heap.size, 0, none⟩ = _ from q0_0'); have x_6 := ext_trans x_5.drew hb6; have hQ4''' := pathT.obelow (pathT.obelow hQ4'' (below_drew _)) hb6)
      | (go_at_call 23; refine (eq_path d0 _ _ _ (pathT.rd hQ4''') (pathT.rd hQ6) sz0).mono ?_; rintro e w7 ⟨rfl, hb7⟩; have p0_0'''''''' := ck hb7 p0_0'''''''; have q0_0''' := ck hb7 q0_0''; have x_7 := ext_trans x_6 hb7; have hQ4'''' := pathT.obelow hQ4''' hb7; have hQ6' := pathT.obelow hQ6 hb7))
    go_wp2_with (fail)
    go_ret
    exact ⟨rfl, x_7⟩
  ·
    go_enter Try.func14, Try.ntmps14
    have p0_0 : (w.alloc (.cells #[.slice A0_0 d0.length cA0_0] 27)).cell? ⟨w.heap.size, 0, none⟩ = some (.slice A0_0 d0.length cA0_0) := by simp
    go_wp2_with (fail)
    refine (szc_path d0 _ (1048576) _ (pathT.kp h0 x0) (by omega) (by omega) l0).mono ?_
    rintro e w1 ⟨rfl, hb1⟩
    rw [szI_no (by omega)]
    have p0_0' := ck hb1 p0_0
    have x_1 := ext_trans x0 hb1
    clear p0_0
    go_wp2_with (fail)
    go_ret
    exact ⟨rfl, x_1⟩

namespace fnExactEndpoints
open Go.ChangeShapes Go.WideShapes Go.ChangeAt

set_option maxRecDepth 100000 in
theorem lifted (os : Os) (started : os.Started) (H : Type) (enc : TypeId × Value → H) :
    ReturnsInHanded {} Try.checked os 14 .any (Rows.fnExactEndpointsSpec.pre6 enc Try.prog Try.f14 Rows.fnExactEndpointsRow.domain false) (Rows.fnExactEndpointsSpec.post enc Try.prog Try.f14 false true false false) := by
  refine returnsInHanded_of_change (C := Try.checked) knob started (by kernel_rfl) Try.func14
    (ChangeSpec.witness6 (enc := enc) (C := Try.checked) false ⟨#[], #[.agg #[.slice none 0 0]], []⟩ 8 (by kernel_rfl) (by kernel_rfl) (by kernel_rfl) (by kernel_rfl)) ?_
  intro W base args ds gs before hval0 hW hcnd _
  have hval : ∀ (j : Nat) t v, Try.f14.params[j]? = some t → args[j]? = some v → Value.okWide Try.prog W .any base t v := hval0
  have hW' := hW
  obtain ⟨p, q, hA0, hV, rfl, hfz, hnd⟩ := hW
  have hA : DataW.TrodAll enc Try.prog W 0 (fun _ => true) true Try.f14.params.toList args.toList ds p := hA0
  rw [Try.params14] at hA hval
  obtain ⟨v0, vs0, d0, ds0, p0, q0, hargs, rfl, rfl, h0, r0⟩ := trodAll_cons hA
  obtain ⟨rfl, rfl, rfl⟩ := trodAll_nil r0
  obtain rfl : args = #[v0] := by cases args; simp_all
  obtain ⟨rfl, rfl⟩ := trodVars_none hV
  have k0 := h0
  have lt0 : ∀ x ∈ p0, x.block < W.heap.size := by obtain ⟨m, hm⟩ := k0; exact DataW.trod_lt m _ _ _ hm
  obtain ⟨cs0, x0, rfl, R0, L0, G0⟩ := open_path (hval 0 27 v0 rfl rfl) h0
  clear hA0 hval0
  refine (lawEndpoints x0 _ W R0 L0 G0).mono fun e W' ⟨he, bel⟩ => ?_
  subst he
  exact ⟨_, rfl, _, _, _, [], _, [], hW', trodAll_mk1 (shut_bool Try.underlying4 _), (trodAll_cons_mk (Below.trod laidOut (by kernel_rfl) (of_decide_eq_true (by kernel_rfl)) k0 bel lt0) trodAll_mk0), rfl, bel.frame _, fun h => by cases h⟩

theorem over : Rows.fnExactEndpointsRow.holds Try.pinned (OpenSpec.ofChange Rows.fnExactEndpointsSpec) :=
  OpenClaim.holds_of_wide 14 Try.f14 rfl rfl rfl rfl rfl rfl rfl ⟨rfl, rfl, rfl, rfl, rfl⟩ rfl rfl rfl rfl rfl (by kernel_rfl) Try.func14 (by kernel_rfl)
    (of_decide_eq_true (by kernel_rfl)) (by unfold Func.isWrapper; first | (rw [if_pos (by decide +kernel)]; kernel_rfl) | (rw [if_neg (by decide +kernel)]; exact ⟨rfl, rfl⟩))
    (fun os started H enc _ => lifted os started H enc)

theorem proved : Rows.FnExactEndpointsSaid := over
#print axioms proved
end fnExactEndpoints
end Go.Proofs.Ytemhpcpdeloajaa
