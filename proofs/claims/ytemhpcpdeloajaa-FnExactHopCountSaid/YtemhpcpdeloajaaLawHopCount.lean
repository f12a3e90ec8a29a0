/- laws.FnExactHopCount returns true, for every path. -/
import Derived.Test.YtemhpcpdeloajaaHopCount
import Derived.Test.YtemhpcpdeloajaaEq
import Derived.Test.YtemhpcpdeloajaaOpen
import Derived.Deep.RegionHeld3
import Derived.Outline
namespace Go.Proofs.Ytemhpcpdeloajaa
open Go.RowKit
set_option linter.unusedVariables false

theorem parts_le {p : Path} {n : Nat} (h : partsSz p ≤ n) : p.length ≤ n ∧ ∀ x ∈ p, x.hops.length ≤ n := by
  unfold partsSz at h
  refine ⟨by omega, fun x hx => ?_⟩
  have : x.hops.length ≤ (p.map fun p => p.hops.length).sum := le_sum_of_mem (List.mem_map.2 ⟨x, hx, rfl⟩)
  omega

set_option maxHeartbeats 2000000 in
theorem lawHopCount (p : Path) (v : Value) (w : World) (h : SlR partT w v p) (hn : p.length ≤ 9223372036854775807) (hm : ∀ x ∈ p, x.hops.length ≤ 9223372036854775807) :
    Calls Try.prog 5 #[.agg #[v]] w fun r w' => r = .returned (.bool true) ∧ Below w.heap.size w w' := by
  obtain ⟨A, c, rfl, _⟩ := h.form
  have hb0 : Below w.heap.size w (w.alloc (.cells #[.slice A p.length c] 27)) := (Below.refl _ _).alloc (Nat.le_refl _) _
  have hs := szPath_c p _ 1048576 _ (h.below hb0) (by omega) (by omega) hn hm
  have Hm := hid hm
  clear hm
  by_cases hbig : (1048576 : Int) < partsSz p
  · rw [szI_no hbig] at hs
    have HS := hid hs
    clear hs
    go_enter Try.func5, Try.ntmps5
    go_wp2_with (fail)
    refine HS.out.mono ?_
    rintro e w1 ⟨rfl, hb1⟩
    go_wp2_with (fail)
    go_ret
    exact ⟨rfl, hb0.trans (hb1.mono hb0.size)⟩
  · rw [szI_yes (by omega)] at hs
    have HS := hid hs
    have hle : partsSz p ≤ 1048576 := by omega
    obtain ⟨hn1, hm1⟩ := parts_le hle
    have Hm1 := hid hm1
    clear hs hm1
    have h2 : ¬ (1048576 : Int) - (partsSz p : Int) < 0 := by omega
    go_enter Try.func5, Try.ntmps5
    go_wp2_with (fail)
    refine HS.out.mono ?_
    rintro e w1 ⟨rfl, hb1⟩
    have x1 := ext_trans hb0 hb1
    have p1 : w1.cell? ⟨w.heap.size, 0, none⟩ = some (.slice A p.length c) := ck hb1 (by simp)
    clear hb1
    go_wp2_with (fail)
    refine (toPath_c p _ _ (h.below x1) hn1 Hm1.out).mono ?_
    rintro e w2 ⟨A2, c2, fp2, rfl, hO2, hb2⟩
    have x2 := ext_trans x1 hb2
    have p2 := ck hb2 p1
    clear p1 hb2
    go_wp2_with (fail)
    refine (specHopCount_c p _ _ hO2.read hle).mono ?_
    rintro e w3 ⟨rfl, hb3⟩
    have x3 := ext_trans x2 hb3
    have p3 := ck hb3 p2
    clear p2 hb3 hO2
    go_wp2_with (fail)
    refine (toPath_c p _ _ (h.below x3) hn1 Hm1.out).mono ?_
    rintro e w4 ⟨A4, c4, fp4, rfl, hO4, hb4⟩
    have x4 := ext_trans x3 hb4
    have p4 := ck hb4 p3
    clear p3 hb4
    go_wp2_with (fail)
    refine (implHopCount_c p _ _ (hO4.alloc _).read hle).mono ?_
    rintro e w5 ⟨rfl, hb5⟩
    have hO5 := (hO4.alloc (.cells #[.slice A4 p.length c4] 32)).below hb5
    have x5 := ext_trans (ext_alloc x4 _) hb5
    have p5 : w5.cell? ⟨w.heap.size, 0, none⟩ = some (.slice A p.length c) := ck hb5 (ck (ext_alloc1 _ _) p4)
    have q5 : w5.cell? ⟨w4.heap.size, 0, none⟩ = some (.slice A4 p.length c4) := ck hb5 (by simp)
    clear hb5 hO4 p4
    go_wp2_with (fail)
    go_region_held3 (fun w' => w'.cell? ⟨w.heap.size, 0, none⟩ = some (.slice A p.length c) ∧ w'.cell? ⟨w4.heap.size, 0, none⟩ = some (.slice A4 p.length c4)) (first | exact ⟨p5, q5⟩ | exact ⟨p6, q6⟩ | exact ⟨p7, q7⟩) (first
      | (go_at_call 21; refine (toPath_c p _ _ (h.below x5.drew) hn1 Hm1.out).mono ?_; rintro e w6 ⟨A6, c6, fp6, rfl, hO6, hb6⟩; have p6 := ck hb6 (show w5.drew.cell? ⟨w.heap.size, 0, none⟩ = _ from p5); have q6 := ck hb6 (show w5.drew.cell? ⟨w4.heap.size, 0, none⟩ = _ from q5))
      | (go_at_call 23; refine (eqPath_c p _ _ _ (hO5.drew.below hb6).read hO6.read hn1 Hm1.out).mono ?_; rintro e w7 ⟨rfl, hb7⟩; have p7 := ck hb7 p6; have q7 := ck hb7 q6))
    go_wp2_with (fail)
    go_ret
    exact ⟨rfl, ext_trans (ext_trans x5.drew hb6) hb7⟩

namespace fnExactHopCount
open Go.ChangeShapes Go.WideShapes Go.ChangeAt

set_option maxRecDepth 100000 in
theorem lifted (os : Os) (started : os.Started) (H : Type) (enc : TypeId × Value → H) :
    ReturnsInHanded {} Try.checked os 5 .any (Rows.fnExactHopCountSpec.pre6 enc Try.prog Try.f5 Rows.fnExactHopCountRow.domain false) (Rows.fnExactHopCountSpec.post enc Try.prog Try.f5 false true false false) := by
  refine returnsInHanded_of_change (C := Try.checked) knob started (by kernel_rfl) Try.func5
    (ChangeSpec.witness6 (enc := enc) (C := Try.checked) false ⟨#[], #[.agg #[.slice none 0 0]], []⟩ 8 (by kernel_rfl) (by kernel_rfl) (by kernel_rfl) (by kernel_rfl)) ?_
  intro W base args ds gs before hval0 hW hcnd _
  have hval : ∀ (j : Nat) t v, Try.f5.params[j]? = some t → args[j]? = some v → Value.okWide Try.prog W .any base t v := hval0
  have hW' := hW
  obtain ⟨p, q, hA0, hV, rfl, hfz, hnd⟩ := hW
  have hA : DataW.TrodAll enc Try.prog W 0 (fun _ => true) true Try.f5.params.toList args.toList ds p := hA0
  rw [Try.params5] at hA hval
  obtain ⟨v0, vs0, d0, ds0, p0, q0, hargs, rfl, rfl, h0, r0⟩ := trodAll_cons hA
  obtain ⟨rfl, rfl, rfl⟩ := trodAll_nil r0
  obtain rfl : args = #[v0] := by cases args; simp_all
  obtain ⟨rfl, rfl⟩ := trodVars_none hV
  have k0 := h0
  have lt0 : ∀ x ∈ p0, x.block < W.heap.size := by obtain ⟨m, hm⟩ := k0; exact DataW.trod_lt m _ _ _ hm
  obtain ⟨A0, c0, l0, rfl, R0, n0, g0⟩ := open_path (hval 0 27 v0 rfl rfl) h0
  clear hA0 hval0
  refine (lawHopCount l0 _ W R0 n0 (fun x hx => (g0 x hx).2.1)).mono fun e W' ⟨he, bel⟩ => ?_
  subst he
  exact ⟨_, rfl, _, _, _, [], _, [], hW', trodAll_mk1 (shut_bool Try.underlying4 _), (trodAll_cons_mk (Below.trod laidOut (by kernel_rfl) (of_decide_eq_true (by kernel_rfl)) k0 bel lt0) trodAll_mk0), rfl, bel.frame _, fun h => by cases h⟩

theorem over : Rows.fnExactHopCountRow.holds Try.pinned (OpenSpec.ofChange Rows.fnExactHopCountSpec) :=
  OpenClaim.holds_of_wide 5 Try.f5 rfl rfl rfl rfl rfl rfl rfl ⟨rfl, rfl, rfl, rfl, rfl⟩ rfl rfl rfl rfl rfl (by kernel_rfl) Try.func5 (by kernel_rfl)
    (of_decide_eq_true (by kernel_rfl)) (by unfold Func.isWrapper; first | (rw [if_pos (by decide +kernel)]; kernel_rfl) | (rw [if_neg (by decide +kernel)]; exact ⟨rfl, rfl⟩))
    (fun os started H enc _ => lifted os started H enc)

theorem proved : Rows.FnExactHopCountSaid := over
#print axioms proved
end fnExactHopCount
end Go.Proofs.Ytemhpcpdeloajaa
