/- laws.FnExactPathFromInts returns true, for all arguments: the walk of the law out of contracts, and the row. No condition. (Printed by law2.py.) -/
import Derived.Test.YtaapaafagmbkoaaWkI
import Derived.Test.YtaapaafagmbkoaaEqs
import Derived.Test.YtaapaafagmbkoaaHole
import Derived.Test.YtaapaafagmbkoaaMarks2
import Derived.Test.YtaapaafagmbkoaaSepN
import Derived.Test.YtaapaafagmbkoaaFamInt
import Derived.Test.YtaapaafagmbkoaaOpenVrd
import Derived.Test.YtaapaafagmbkoaaOpen
namespace Go.Proofs.Ytaapaafagmbkoaa
open Go.RowKit
set_option linter.unusedVariables false

set_option maxRecDepth 20000

theorem szI_pos {left : Int} {n : Nat} (h0 : 0 ≤ left) (h : ¬ szI left n < 0) : (n : Int) ≤ left ∧ szI left n = left - n := by
  unfold szI at *
  split at h
  · rename_i h1; exact ⟨h1, by rw [if_pos h1]⟩
  · omega

set_option maxHeartbeats 1000000 in
theorem lawPathFromInts (d0 : List Int) (v0 : Value) (w : World) (f0 : SlR intT w v0 d0) (l0 : d0.length ≤ 9223372036854775807) (g0 : ∀ x ∈ d0, In64 x) :
    Calls Try.prog 5 #[v0] w fun r w' => r = .returned (.bool true) ∧ Below w.heap.size w w' := by
  have hr0 := pathOf_sz d0
  have hr1 : 0 ≤ cnt_parts (pathOf d0).1 ∧ cnt_parts (pathOf d0).1 ≤ 5 * (sz_path (pathOf d0).1 : Int) := cnt_parts_bd (pathOf d0).1
  have X0 := Below.refl w.heap.size w
  refine enter Try.func5 rfl Try.ntmps5 rfl ?_
  refine w_seq ?_
  refine w_region ?_
  have S := Sep.nil w
  have B := Below.refl w.heap.size w
  have Hb := Nat.le_refl w.heap.size
  refine t_assign rfl ?_ rfl
  refine t_done ?_
  refine x_seq ?_
  refine w_seq ?_
  refine w_seq ?_
  refine w_region ?_
  refine t_move rfl ?_ rfl
  refine t_len e_int (by assumption) rfl rfl ?_ rfl
  refine t_gtr rfl rfl ?_ rfl
  refine t_done ?_
  refine x_seq ?_
  refine w_if rfl ?_ ?_
  · intro _
    refine w_seq ?_
    refine w_region ?_
    refine t_assign rfl ?_ rfl
    refine t_done ?_
    refine x_seq ?_
    refine w_ret ?_
    refine x_then_ret ?_
    refine x_ret1 rfl rfl ?_
    exact ⟨rfl, ext_trans X0 B⟩
  intro hz1
  refine w_skip ?_
  refine x_seq ?_
  refine w_seq ?_
  refine w_region ?_
  refine t_move rfl ?_ rfl
  refine t_call Try.call27 rfl (to_intS _ _ _ (by first | assumption | exact SlR.below (by assumption) B) (by omega)) ?_ rfl rfl
  rintro e w2 ⟨v18, fpv18, rfl, hOv18, x3⟩
  refine ⟨_, rfl, x3, ?_⟩
  have S := S.add (o := slO _ _ _ _) x3 hOv18
  have B := bx Hb B x3
  refine t_call Try.call26 rfl (spec_PathFromInts _ _ _ (S.sl) (by omega) (by assumption)) ?_ rfl rfl
  rintro e w4 ⟨cs19, fp19, rfl, hO19, x5⟩
  refine ⟨_, rfl, x5, ?_⟩
  have S := S.add (o := tyO pathT _ _) x5 hO19
  have B := bx Hb B x5
  obtain ⟨u19_0, heq, S2⟩ := S.pathOpen
  subst heq
  have S := S2
  clear S2
  refine t_move rfl ?_ rfl
  refine t_extract rfl rfl ?_ rfl
  refine t_extract rfl rfl ?_ rfl
  refine t_alloc S z_path rfl ?_ rfl rfl
  intro g3 w6 x7 S
  have B := bx Hb B x7
  refine t_stn S sb_path rfl rfl rfl rfl (by intro u hu; simp only [List.mem_cons, List.not_mem_nil, or_false] at hu; rcases hu with rfl <;> first | rfl | exact (SlR.cells (by first | assumption | exact S.tail.sl | exact S.tail.tail.sl | exact S.tail.tail.tail.sl | exact S.tail.tail.tail.tail.sl | exact S.tail.tail.tail.tail.tail.sl | exact S.tail.tail.tail.tail.tail.tail.sl | exact S.tail.tail.tail.tail.tail.tail.tail.sl | exact S.tail.tail.tail.tail.tail.tail.tail.tail.sl)).2) ?_
  intro w8 b9 S
  have B := B.trans b9
  refine t_assign rfl ?_ rfl
  refine t_done ?_
  refine x_seq ?_
  refine w_seq ?_
  refine w_region ?_
  refine t_move rfl ?_ rfl
  refine t_call Try.call27 rfl (to_intS _ _ _ (by first | assumption | exact SlR.below (by assumption) B) (by omega)) ?_ rfl rfl
  rintro e w10 ⟨v23, fpv23, rfl, hOv23, x11⟩
  refine ⟨_, rfl, x11, ?_⟩
  have S := S.add (o := slO _ _ _ _) x11 hOv23
  have B := bx Hb B x11
  refine t_assign rfl ?_ rfl
  refine t_done ?_
  refine x_seq ?_
  refine w_seq ?_
  refine w_region ?_
  refine t_move rfl ?_ rfl
  refine t_call Try.call28 rfl (impl_PathFromInts _ _ _ (S.sl) (by omega) (by assumption)) ?_ rfl rfl
  rintro e w12 ⟨cs26, fp26, rfl, hO26, x13⟩
  refine ⟨_, rfl, x13, ?_⟩
  have S := S.add (o := tyO pathT _ _) x13 hO26
  have B := bx Hb B x13
  obtain ⟨u26_0, heq, S2⟩ := S.pathOpen
  subst heq
  have S := S2
  clear S2
  refine t_move rfl ?_ rfl
  refine t_extract rfl rfl ?_ rfl
  refine t_extract rfl rfl ?_ rfl
  refine t_alloc S z_path rfl ?_ rfl rfl
  intro g6 w14 x15 S
  have B := bx Hb B x15
  refine t_stn S sb_path rfl rfl rfl rfl (by intro u hu; simp only [List.mem_cons, List.not_mem_nil, or_false] at hu; rcases hu with rfl <;> first | rfl | exact (SlR.cells (by first | assumption | exact S.tail.sl | exact S.tail.tail.sl | exact S.tail.tail.tail.sl | exact S.tail.tail.tail.tail.sl | exact S.tail.tail.tail.tail.tail.sl | exact S.tail.tail.tail.tail.tail.tail.sl | exact S.tail.tail.tail.tail.tail.tail.tail.sl | exact S.tail.tail.tail.tail.tail.tail.tail.tail.sl)).2) ?_
  intro w16 b17 S
  have B := B.trans b17
  refine t_assign rfl ?_ rfl
  refine t_done ?_
  refine x_seq ?_
  refine w_seq ?_
  refine w_seq ?_
  refine w_region ?_
  refine t_bxn S.box ab_path sb_path rfl rfl ?_ rfl
  refine t_bxn S.tail.tail.tail.box ab_path sb_path rfl rfl ?_ rfl
  refine t_callx Try.call20 rfl (eqv_path _ _ _ _ (path_mkv (S.tail.sl)) (path_mkv (S.tail.tail.tail.tail.sl)) (ok_path_sz (by omega))) ?_ rfl rfl
  intro w18 x19
  have B := bx Hb B x19
  have S := S.below x19
  refine t_notb rfl ?_ rfl
  refine t_move rfl ?_ rfl
  refine t_on rfl rfl ?_
  refine t_move rfl ?_ rfl
  refine t_on rfl rfl ?_
  refine t_move rfl ?_ rfl
  refine t_on rfl rfl ?_
  refine t_neqb Try.underlying4 rfl rfl ?_ rfl
  refine t_pickf rfl rfl ?_ rfl
  refine t_done ?_
  refine x_seq ?_
  refine w_if rfl (fun h => absurd rfl h) ?_
  intro _
  refine w_skip ?_
  refine x_seq ?_
  refine w_seq ?_
  refine w_seq ?_
  refine w_region ?_
  refine t_move rfl ?_ rfl
  refine t_move rfl ?_ rfl
  refine t_call Try.call27 rfl (to_intS _ _ _ (by first | assumption | exact SlR.below (by assumption) B) (by omega)) ?_ rfl rfl
  rintro e w20 ⟨v40, fpv40, rfl, hOv40, x21⟩
  refine ⟨_, rfl, x21, ?_⟩
  have S := S.add (o := slO _ _ _ _) x21 hOv40
  have B := bx Hb B x21
  refine t_callx Try.call19 rfl (eqv_ints _ _ _ _ (S.tail.tail.tail.sl) (S.sl) (by omega)) ?_ rfl rfl
  intro w22 x23
  have B := bx Hb B x23
  have S := S.below x23
  refine t_notb rfl ?_ rfl
  refine t_done ?_
  refine x_seq ?_
  refine w_no rfl ?_
  refine w_skip ?_
  refine x_seq ?_
  refine w_seq ?_
  refine w_region ?_
  refine t_assign rfl ?_ rfl
  refine t_done ?_
  refine x_seq ?_
  refine w_seq ?_
  refine w_region ?_
  refine t_move rfl ?_ rfl
  refine t_move rfl ?_ rfl
  have S := S.f3
  refine t_callf Try.call22 rfl (mark_int _ _ _ _ _ _ S (by omega) (by omega)) ?_ rfl
  rintro e w24 ⟨rfl, S, x25⟩
  refine ⟨_, rfl, ?_⟩
  have B := B.trans x25
  refine t_assign rfl ?_ rfl
  refine t_done ?_
  refine x_seq ?_
  refine w_seq ?_
  refine w_seq ?_
  refine w_region ?_
  refine t_move rfl ?_ rfl
  refine t_lss rfl rfl ?_ rfl
  refine t_move rfl ?_ rfl
  refine t_partp (t := 48) rfl (fun h => (by exfalso; omega)) ?_
  intro hc48
  refine t_on rfl rfl ?_
  refine t_bxn S.tail.tail.box ab_path sb_path rfl rfl ?_ rfl
  refine t_on rfl rfl ?_
  refine t_bxn S.tail.tail.tail.tail.box ab_path sb_path rfl rfl ?_ rfl
  refine t_on rfl rfl ?_
  refine t_callx Try.call20 rfl (eqv_path _ _ _ _ (path_mkv (S.tail.tail.tail.sl)) (path_mkv (S.tail.tail.tail.tail.tail.sl)) (ok_path_sz (by omega))) ?_ rfl rfl
  intro w26 x27
  have B := bx Hb B x27
  have S := S.below x27
  refine t_on rfl rfl ?_
  refine t_notb rfl ?_ rfl
  refine t_pickf rfl rfl ?_ rfl
  refine t_move rfl ?_ rfl
  refine t_on rfl rfl ?_
  refine t_move rfl ?_ rfl
  refine t_on rfl rfl ?_
  refine t_move rfl ?_ rfl
  refine t_on rfl rfl ?_
  refine t_neqb Try.underlying4 rfl rfl ?_ rfl
  refine t_pickf rfl rfl ?_ rfl
  refine t_done ?_
  refine x_seq ?_
  refine w_if rfl (fun h => absurd rfl h) ?_
  intro _
  refine w_skip ?_
  refine x_seq ?_
  refine w_seq ?_
  refine w_region ?_
  refine t_assign rfl ?_ rfl
  refine t_done ?_
  refine x_seq ?_
  refine w_seq ?_
  refine w_region ?_
  refine t_bxn S.tail.tail.box ab_path sb_path rfl rfl ?_ rfl
  refine t_move rfl ?_ rfl
  have S := S.f3
  refine t_callf Try.call21 rfl (mark_path _ _ _ _ _ _ S (by omega) (by omega)) ?_ rfl
  rintro e w28 ⟨rfl, S, x29⟩
  refine ⟨_, rfl, ?_⟩
  have B := B.trans x29
  refine t_assign rfl ?_ rfl
  refine t_done ?_
  refine x_seq ?_
  refine w_seq ?_
  refine w_region ?_
  refine t_assign rfl ?_ rfl
  refine t_done ?_
  refine x_seq ?_
  refine w_seq ?_
  refine w_region ?_
  refine t_bxn S.tail.tail.tail.box ab_path sb_path rfl rfl ?_ rfl
  refine t_move rfl ?_ rfl
  refine t_callx Try.call29 rfl (held_path _ _ _ _ (S.sl) (by omega) (by omega)) ?_ rfl rfl
  intro w30 x31
  have B := bx Hb B x31
  have S := S.below x31
  refine t_assign rfl ?_ rfl
  refine t_done ?_
  refine x_seq ?_
  refine w_seq ?_
  refine w_seq ?_
  refine w_region ?_
  refine t_move rfl ?_ rfl
  refine t_lss rfl rfl ?_ rfl
  refine t_done ?_
  refine x_seq ?_
  refine w_if rfl (fun h => (by exfalso; omega)) ?_
  intro hc66
  refine w_skip ?_
  refine x_seq ?_
  refine w_seq ?_
  refine w_seq ?_
  refine w_region ?_
  refine t_move rfl ?_ rfl
  refine t_move rfl ?_ rfl
  refine t_neq rfl rfl ?_ rfl
  refine t_done ?_
  refine x_seq ?_
  refine w_if rfl (fun h => absurd rfl h) ?_
  intro _
  refine w_skip ?_
  refine x_seq ?_
  refine w_seq ?_
  refine w_region ?_
  refine t_move rfl ?_ rfl
  refine t_call Try.call27 rfl (to_intS _ _ _ (by first | assumption | exact SlR.below (by assumption) B) (by omega)) ?_ rfl rfl
  rintro e w32 ⟨v72, fpv72, rfl, hOv72, x33⟩
  refine ⟨_, rfl, x33, ?_⟩
  have S := S.add (o := slO _ _ _ _) x33 hOv72
  have B := bx Hb B x33
  refine t_call Try.call28 rfl (impl_PathFromInts _ _ _ (S.sl) (by omega) (by assumption)) ?_ rfl rfl
  rintro e w34 ⟨cs73, fp73, rfl, hO73, x35⟩
  refine ⟨_, rfl, x35, ?_⟩
  have S := S.add (o := tyO pathT _ _) x35 hO73
  have B := bx Hb B x35
  obtain ⟨u73_0, heq, S2⟩ := S.pathOpen
  subst heq
  have S := S2
  clear S2
  refine t_move rfl ?_ rfl
  refine t_extract rfl rfl ?_ rfl
  refine t_extract rfl rfl ?_ rfl
  refine t_alloc S z_path rfl ?_ rfl rfl
  intro g11 w36 x37 S
  have B := bx Hb B x37
  refine t_stn S sb_path rfl rfl rfl rfl (by intro u hu; simp only [List.mem_cons, List.not_mem_nil, or_false] at hu; rcases hu with rfl <;> first | rfl | exact (SlR.cells (by first | assumption | exact S.tail.sl | exact S.tail.tail.sl | exact S.tail.tail.tail.sl | exact S.tail.tail.tail.tail.sl | exact S.tail.tail.tail.tail.tail.sl | exact S.tail.tail.tail.tail.tail.tail.sl | exact S.tail.tail.tail.tail.tail.tail.tail.sl | exact S.tail.tail.tail.tail.tail.tail.tail.tail.sl)).2) ?_
  intro w38 b39 S
  have B := B.trans b39
  refine t_assign rfl ?_ rfl
  refine t_done ?_
  refine x_seq ?_
  refine w_seq ?_
  refine w_seq ?_
  refine w_region ?_
  refine t_bxn S.box ab_path sb_path rfl rfl ?_ rfl
  refine t_bxn S.tail.tail.tail.tail.tail.tail.tail.box ab_path sb_path rfl rfl ?_ rfl
  refine t_callx Try.call20 rfl (eqv_path _ _ _ _ (path_mkv (S.tail.sl)) (path_mkv (S.tail.tail.tail.tail.tail.tail.tail.tail.sl)) (ok_path_sz (by omega))) ?_ rfl rfl
  intro w40 x41
  have B := bx Hb B x41
  have S := S.below x41
  refine t_notb rfl ?_ rfl
  refine t_move rfl ?_ rfl
  refine t_on rfl rfl ?_
  refine t_move rfl ?_ rfl
  refine t_on rfl rfl ?_
  refine t_move rfl ?_ rfl
  refine t_on rfl rfl ?_
  refine t_neqb Try.underlying4 rfl rfl ?_ rfl
  refine t_pickf rfl rfl ?_ rfl
  refine t_done ?_
  refine x_seq ?_
  refine w_if rfl (fun h => absurd rfl h) ?_
  intro _
  refine w_skip ?_
  refine x_seq ?_
  refine w_seq ?_
  refine w_region ?_
  refine t_assign rfl ?_ rfl
  refine t_done ?_
  refine x_seq ?_
  refine w_seq ?_
  refine w_region ?_
  refine t_bxn S.tail.tail.tail.tail.tail.tail.box ab_path sb_path rfl rfl ?_ rfl
  refine t_move rfl ?_ rfl
  refine t_callx Try.call29 rfl (held_path _ _ _ _ (S.tail.tail.tail.sl) (by omega) (by omega)) ?_ rfl rfl
  intro w42 x43
  have B := bx Hb B x43
  have S := S.below x43
  refine t_assign rfl ?_ rfl
  refine t_done ?_
  refine x_seq ?_
  refine w_seq ?_
  refine w_seq ?_
  refine w_region ?_
  refine t_move rfl ?_ rfl
  refine t_lss rfl rfl ?_ rfl
  refine t_done ?_
  refine x_seq ?_
  refine w_if rfl (fun h => (by exfalso; omega)) ?_
  intro hc89
  refine w_skip ?_
  refine x_seq ?_
  refine w_seq ?_
  refine w_seq ?_
  refine w_region ?_
  refine t_move rfl ?_ rfl
  refine t_move rfl ?_ rfl
  refine t_neq rfl rfl ?_ rfl
  refine t_done ?_
  refine x_seq ?_
  refine w_if rfl (fun h => absurd rfl h) ?_
  intro _
  refine w_skip ?_
  refine x_seq ?_
  refine w_seq ?_
  refine w_region ?_
  refine t_assign rfl ?_ rfl
  refine t_done ?_
  refine x_seq ?_
  refine w_ret ?_
  refine x_ret1 rfl rfl ?_
  exact ⟨rfl, ext_trans X0 B⟩

namespace fnExactPathFromInts
open Go.ChangeShapes Go.WideShapes Go.ChangeAt

set_option maxRecDepth 100000 in
theorem lifted (os : Os) (started : os.Started) (H : Type) (enc : TypeId × Value → H) :
    ReturnsInHanded {} Try.checked os 5 .any (Rows.fnExactPathFromIntsSpec.pre6 enc Try.prog Try.f5 Rows.fnExactPathFromIntsRow.domain false) (Rows.fnExactPathFromIntsSpec.post enc Try.prog Try.f5 false true false false) := by
  refine returnsInHanded_of_change (C := Try.checked) knob started (by kernel_rfl) Try.func5
    (ChangeSpec.witness6 (enc := enc) (C := Try.checked) false ⟨#[], #[.slice none 0 0], []⟩ 8 (by kernel_rfl) (by kernel_rfl) (by kernel_rfl) (by kernel_rfl)) ?_
  intro W base args ds gs before hval0 hW hcnd _
  have hval : ∀ (j : Nat) t v, Try.f5.params[j]? = some t → args[j]? = some v → Value.okWide Try.prog W .any base t v := hval0
  have hW' := hW
  obtain ⟨p, q, hA0, hV, rfl, hfz, hnd⟩ := hW
  have hA : DataW.TrodAll enc Try.prog W 0 (fun _ => true) true Try.f5.params.toList args.toList ds p := hA0
  rw [Try.params5] at hA hval
  obtain ⟨v0, vs0, d0, ds0, p0, q0, hargs, rfl, rfl, h0, r0⟩ := trodAll_cons hA
  obtain ⟨rfl, rfl, rfl⟩ := trodAll_nil r0
  obtain rfl : args = #[v0] := by cases args; simp_all
  obtain ⟨rfl, rfl⟩ := trodVars_none hV
  have k0 := h0
  have lt0 : ∀ x ∈ p0, x.block < W.heap.size := by obtain ⟨m, hm⟩ := k0; exact DataW.trod_lt m _ _ _ hm
  obtain ⟨x0, R0, L0, G0⟩ := open_intS (hval 0 26 v0 rfl rfl) h0
  clear hA0 hval0
  refine (lawPathFromInts x0 _ W R0 L0 G0).mono fun e W' ⟨he, bel⟩ => ?_
  subst he
  exact ⟨_, rfl, _, _, _, [], _, [], hW', trodAll_mk1 (shut_bool Try.underlying4 _), (trodAll_cons_mk (Below.trod laidOut (by kernel_rfl) (of_decide_eq_true (by kernel_rfl)) k0 bel lt0) trodAll_mk0), rfl, bel.frame _, fun h => by cases h⟩

theorem over : Rows.fnExactPathFromIntsRow.holds Try.pinned (OpenSpec.ofChange Rows.fnExactPathFromIntsSpec) :=
  OpenClaim.holds_of_wide 5 Try.f5 rfl rfl rfl rfl rfl rfl rfl ⟨rfl, rfl, rfl, rfl, rfl⟩ rfl rfl rfl rfl rfl (by kernel_rfl) Try.func5 (by kernel_rfl)
    (of_decide_eq_true (by kernel_rfl)) (by unfold Func.isWrapper; first | (rw [if_pos (by decide +kernel)]; kernel_rfl) | (rw [if_neg (by decide +kernel)]; exact ⟨rfl, rfl⟩))
    (fun os started H enc _ => lifted os started H enc)

theorem proved : Rows.FnExactPathFromIntsSaid := over
#print axioms proved
end fnExactPathFromInts
end Go.Proofs.Ytaapaafagmbkoaa
