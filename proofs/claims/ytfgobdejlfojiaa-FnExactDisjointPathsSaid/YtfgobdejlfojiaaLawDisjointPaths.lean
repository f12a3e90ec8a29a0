/- laws.FnExactDisjointPaths returns true, for all arguments: the walk of the law out of contracts, and the row. No condition. (Printed by law2.py.) -/
import Derived.Test.YtfgobdejlfojiaaWkZd
import Derived.Test.YtfgobdejlfojiaaJoined
import Derived.Test.YtfgobdejlfojiaaEqs
import Derived.Test.YtfgobdejlfojiaaHole
import Derived.Test.YtfgobdejlfojiaaMarks2
import Derived.Test.YtfgobdejlfojiaaSepN
import Derived.Test.YtfgobdejlfojiaaOkz
import Derived.Test.YtfgobdejlfojiaaMarks3
import Derived.Test.YtfgobdejlfojiaaFamPath
import Derived.Test.YtfgobdejlfojiaaFamPaths
import Derived.Test.YtfgobdejlfojiaaOpen
namespace Go.Proofs.Ytfgobdejlfojiaa
open Go.RowKit
set_option linter.unusedVariables false

set_option maxRecDepth 20000

theorem szI_pos {left : Int} {n : Nat} (h0 : 0 ≤ left) (h : ¬ szI left n < 0) : (n : Int) ≤ left ∧ szI left n = left - n := by
  unfold szI at *
  split at h
  · rename_i h1; exact ⟨h1, by rw [if_pos h1]⟩
  · omega

set_option maxHeartbeats 1000000 in
theorem lawDisjointPaths (d0 : List Path) (v0 : Value) (d1 : Int) (w : World) (f0 : SlR pathT w v0 d0) (l0 : d0.length ≤ 9223372036854775807 ∧ ∀ x ∈ d0, lenOk_path x) (g0 : ∀ x ∈ d0, rng_path x) (g1 : In64 d1) :
    Calls Try.prog 12 #[v0, I d1] w fun r w' => r = .returned (.bool true) ∧ Below w.heap.size w w' := by
  obtain ⟨la0, lb0⟩ := l0
  have hcb0 := cnt_paths_bd d0
  have hr0 := disj_sz d0 d1
  have hr1 := cnt_paths_bd (disj d0 d1)
  have X0 := Below.refl w.heap.size w
  refine enter Try.func12 rfl Try.ntmps12 rfl ?_
  refine w_seq ?_
  refine w_region ?_
  have S := Sep.nil w
  have B := Below.refl w.heap.size w
  have Hb := Nat.le_refl w.heap.size
  refine t_assign rfl ?_ rfl
  refine t_done ?_
  refine x_seq ?_
  refine w_seq ?_
  refine w_region ?_
  refine t_assign rfl ?_ rfl
  refine t_done ?_
  refine x_seq ?_
  refine w_seq ?_
  refine w_region ?_
  refine t_move rfl ?_ rfl
  refine t_move rfl ?_ rfl
  refine t_callx Try.call48 rfl (szc_pathS _ _ _ _ (by first | assumption | exact SlR.below (by assumption) B) (by omega) (by omega) (by omega) (by assumption)) ?_ rfl rfl
  intro w1 x2
  have B := bx Hb B x2
  have S := S.below x2
  refine t_assign rfl ?_ rfl
  refine t_done ?_
  refine x_seq ?_
  refine w_seq ?_
  refine w_seq ?_
  refine w_region ?_
  refine t_move rfl ?_ rfl
  refine t_lss rfl rfl ?_ rfl
  refine t_done ?_
  refine x_seq ?_
  refine w_if rfl ?_ ?_
  · intro _
    refine w_seq ?_
    refine w_region ?_
    refine t_assign rfl ?_ rfl
    refine t_done ?_
    refine x_seq ?_
    refine w_ret ?_
    refine x_then_ret ?_
    refine x_ret1 rfl rfl ?_
    exact ⟨rfl, ext_trans X0 B⟩
  intro hz3
  have hz3 := szI_pos (by omega) hz3
  refine w_skip ?_
  refine x_seq ?_
  refine w_seq ?_
  refine w_region ?_
  refine t_move rfl ?_ rfl
  refine t_call Try.call50 rfl (to_pathS _ _ _ (by first | assumption | exact SlR.below (by assumption) B) (by omega)) ?_ rfl rfl
  rintro e w4 ⟨v19, fpv19, rfl, hOv19, x5⟩
  refine ⟨_, rfl, x5, ?_⟩
  have S := S.add (o := slO _ _ _ _) x5 hOv19
  have B := bx Hb B x5
  refine t_move rfl ?_ rfl
  refine t_call Try.call55 rfl (spec_DisjointPaths _ _ _ _ (S.sl) (by omega) (by assumption) (by assumption)) ?_ rfl rfl
  rintro e w6 ⟨v21, fpv21, rfl, hOv21, x7⟩
  refine ⟨_, rfl, x7, ?_⟩
  have S := S.add (o := slO _ _ _ _) x7 hOv21
  have B := bx Hb B x7
  refine t_assign rfl ?_ rfl
  refine t_done ?_
  refine x_seq ?_
  refine w_seq ?_
  refine w_region ?_
  refine t_move rfl ?_ rfl
  refine t_call Try.call50 rfl (to_pathS _ _ _ (by first | assumption | exact SlR.below (by assumption) B) (by omega)) ?_ rfl rfl
  rintro e w8 ⟨v23, fpv23, rfl, hOv23, x9⟩
  refine ⟨_, rfl, x9, ?_⟩
  have S := S.add (o := slO _ _ _ _) x9 hOv23
  have B := bx Hb B x9
  refine t_assign rfl ?_ rfl
  refine t_done ?_
  refine x_seq ?_
  refine w_seq ?_
  refine w_region ?_
  refine t_move rfl ?_ rfl
  refine t_move rfl ?_ rfl
  refine t_call Try.call56 rfl (impl_DisjointPaths _ _ _ _ (S.sl) (by omega) (by assumption) (by assumption)) ?_ rfl rfl
  rintro e w10 ⟨v26, fpv26, rfl, hOv26, x11⟩
  refine ⟨_, rfl, x11, ?_⟩
  have S := S.add (o := slO _ _ _ _) x11 hOv26
  have B := bx Hb B x11
  refine t_assign rfl ?_ rfl
  refine t_done ?_
  refine x_seq ?_
  refine w_seq ?_
  refine w_seq ?_
  refine w_region ?_
  refine t_move rfl ?_ rfl
  refine t_move rfl ?_ rfl
  refine t_callx Try.call52 rfl (eqv_pathl _ _ _ _ (S.sl) (S.tail.tail.sl) (by omega)) ?_ rfl rfl
  intro w12 x13
  have B := bx Hb B x13
  have S := S.below x13
  refine t_notb rfl ?_ rfl
  refine t_done ?_
  refine x_seq ?_
  refine w_no rfl ?_
  refine w_skip ?_
  refine x_seq ?_
  refine w_seq ?_
  refine w_seq ?_
  refine w_region ?_
  refine t_move rfl ?_ rfl
  refine t_move rfl ?_ rfl
  refine t_call Try.call50 rfl (to_pathS _ _ _ (by first | assumption | exact SlR.below (by assumption) B) (by omega)) ?_ rfl rfl
  rintro e w14 ⟨v33, fpv33, rfl, hOv33, x15⟩
  refine ⟨_, rfl, x15, ?_⟩
  have S := S.add (o := slO _ _ _ _) x15 hOv33
  have B := bx Hb B x15
  refine t_callx Try.call52 rfl (eqv_pathl _ _ _ _ (S.tail.tail.sl) (S.sl) (by omega)) ?_ rfl rfl
  intro w16 x17
  have B := bx Hb B x17
  have S := S.below x17
  refine t_notb rfl ?_ rfl
  refine t_done ?_
  refine x_seq ?_
  refine w_no rfl ?_
  refine w_skip ?_
  refine x_seq ?_
  refine w_seq ?_
  refine w_region ?_
  refine t_assign rfl ?_ rfl
  refine t_done ?_
  refine x_seq ?_
  refine w_seq ?_
  refine w_region ?_
  refine t_move rfl ?_ rfl
  refine t_move rfl ?_ rfl
  have S := S.f2
  refine t_callf Try.call53 rfl (mark_pathl _ _ _ _ _ _ S (by omega) (by omega)) ?_ rfl
  rintro e w18 ⟨rfl, S, x19⟩
  refine ⟨_, rfl, ?_⟩
  have B := B.trans x19
  refine t_assign rfl ?_ rfl
  refine t_done ?_
  refine x_seq ?_
  refine w_seq ?_
  refine w_seq ?_
  refine w_region ?_
  refine t_move rfl ?_ rfl
  refine t_lss rfl rfl ?_ rfl
  refine t_move rfl ?_ rfl
  refine t_partp (t := 41) rfl (fun h => (by exfalso; omega)) ?_
  intro hc41
  refine t_on rfl rfl ?_
  refine t_move rfl ?_ rfl
  refine t_on rfl rfl ?_
  refine t_move rfl ?_ rfl
  refine t_on rfl rfl ?_
  refine t_callx Try.call52 rfl (eqv_pathl _ _ _ _ (S.tail.tail.sl) (S.tail.tail.tail.sl) (by omega)) ?_ rfl rfl
  intro w20 x21
  have B := bx Hb B x21
  have S := S.below x21
  refine t_on rfl rfl ?_
  refine t_notb rfl ?_ rfl
  refine t_pickf rfl rfl ?_ rfl
  refine t_done ?_
  refine x_seq ?_
  refine w_no rfl ?_
  refine w_skip ?_
  refine x_seq ?_
  refine w_seq ?_
  refine w_region ?_
  refine t_assign rfl ?_ rfl
  refine t_done ?_
  refine x_seq ?_
  refine w_seq ?_
  refine w_region ?_
  refine t_move rfl ?_ rfl
  refine t_move rfl ?_ rfl
  have S := S.f2
  refine t_callf Try.call53 rfl (mark_pathl _ _ _ _ _ _ S (by omega) (by omega)) ?_ rfl
  rintro e w22 ⟨rfl, S, x23⟩
  refine ⟨_, rfl, ?_⟩
  have B := B.trans x23
  refine t_assign rfl ?_ rfl
  refine t_done ?_
  refine x_seq ?_
  refine w_seq ?_
  refine w_region ?_
  refine t_assign rfl ?_ rfl
  refine t_done ?_
  refine x_seq ?_
  refine w_seq ?_
  refine w_region ?_
  refine t_move rfl ?_ rfl
  refine t_move rfl ?_ rfl
  refine t_callx Try.call54 rfl (held_pathl _ _ _ _ (S.sl) (by omega) (by omega)) ?_ rfl rfl
  intro w24 x25
  have B := bx Hb B x25
  have S := S.below x25
  refine t_assign rfl ?_ rfl
  refine t_done ?_
  refine x_seq ?_
  refine w_seq ?_
  refine w_seq ?_
  refine w_region ?_
  refine t_move rfl ?_ rfl
  refine t_lss rfl rfl ?_ rfl
  refine t_done ?_
  refine x_seq ?_
  refine w_if rfl (fun h => (by exfalso; omega)) ?_
  intro hc54
  refine w_skip ?_
  refine x_seq ?_
  refine w_seq ?_
  refine w_seq ?_
  refine w_region ?_
  refine t_move rfl ?_ rfl
  refine t_move rfl ?_ rfl
  refine t_neq rfl rfl ?_ rfl
  refine t_done ?_
  refine x_seq ?_
  refine w_if rfl (fun h => absurd rfl h) ?_
  intro _
  refine w_skip ?_
  refine x_seq ?_
  refine w_seq ?_
  refine w_region ?_
  refine t_move rfl ?_ rfl
  refine t_call Try.call50 rfl (to_pathS _ _ _ (by first | assumption | exact SlR.below (by assumption) B) (by omega)) ?_ rfl rfl
  rintro e w26 ⟨v59, fpv59, rfl, hOv59, x27⟩
  refine ⟨_, rfl, x27, ?_⟩
  have S := S.add (o := slO _ _ _ _) x27 hOv59
  have B := bx Hb B x27
  refine t_move rfl ?_ rfl
  refine t_call Try.call56 rfl (impl_DisjointPaths _ _ _ _ (S.sl) (by omega) (by assumption) (by assumption)) ?_ rfl rfl
  rintro e w28 ⟨v61, fpv61, rfl, hOv61, x29⟩
  refine ⟨_, rfl, x29, ?_⟩
  have S := S.add (o := slO _ _ _ _) x29 hOv61
  have B := bx Hb B x29
  refine t_assign rfl ?_ rfl
  refine t_done ?_
  refine x_seq ?_
  refine w_seq ?_
  refine w_seq ?_
  refine w_region ?_
  refine t_move rfl ?_ rfl
  refine t_move rfl ?_ rfl
  refine t_callx Try.call52 rfl (eqv_pathl _ _ _ _ (S.sl) (S.tail.tail.tail.tail.tail.sl) (by omega)) ?_ rfl rfl
  intro w30 x31
  have B := bx Hb B x31
  have S := S.below x31
  refine t_notb rfl ?_ rfl
  refine t_done ?_
  refine x_seq ?_
  refine w_no rfl ?_
  refine w_skip ?_
  refine x_seq ?_
  refine w_seq ?_
  refine w_region ?_
  refine t_assign rfl ?_ rfl
  refine t_done ?_
  refine x_seq ?_
  refine w_seq ?_
  refine w_region ?_
  refine t_move rfl ?_ rfl
  refine t_move rfl ?_ rfl
  refine t_callx Try.call54 rfl (held_pathl _ _ _ _ (S.tail.tail.sl) (by omega) (by omega)) ?_ rfl rfl
  intro w32 x33
  have B := bx Hb B x33
  have S := S.below x33
  refine t_assign rfl ?_ rfl
  refine t_done ?_
  refine x_seq ?_
  refine w_seq ?_
  refine w_seq ?_
  refine w_region ?_
  refine t_move rfl ?_ rfl
  refine t_lss rfl rfl ?_ rfl
  refine t_done ?_
  refine x_seq ?_
  refine w_if rfl (fun h => (by exfalso; omega)) ?_
  intro hc70
  refine w_skip ?_
  refine x_seq ?_
  refine w_seq ?_
  refine w_seq ?_
  refine w_region ?_
  refine t_move rfl ?_ rfl
  refine t_move rfl ?_ rfl
  refine t_neq rfl rfl ?_ rfl
  refine t_done ?_
  refine x_seq ?_
  refine w_if rfl (fun h => absurd rfl h) ?_
  intro _
  refine w_skip ?_
  refine x_seq ?_
  refine w_seq ?_
  refine w_region ?_
  refine t_assign rfl ?_ rfl
  refine t_done ?_
  refine x_seq ?_
  refine w_ret ?_
  refine x_ret1 rfl rfl ?_
  exact ⟨rfl, ext_trans X0 B⟩

namespace fnExactDisjointPaths
open Go.ChangeShapes Go.WideShapes Go.ChangeAt

set_option maxRecDepth 100000 in
theorem lifted (os : Os) (started : os.Started) (H : Type) (enc : TypeId × Value → H) :
    ReturnsInHanded {} Try.checked os 12 .any (Rows.fnExactDisjointPathsSpec.pre6 enc Try.prog Try.f12 Rows.fnExactDisjointPathsRow.domain false) (Rows.fnExactDisjointPathsSpec.post enc Try.prog Try.f12 false true false false) := by
  refine returnsInHanded_of_change (C := Try.checked) knob started (by kernel_rfl) Try.func12
    (ChangeSpec.witness6 (enc := enc) (C := Try.checked) false ⟨#[], #[.slice none 0 0, I 0], []⟩ 8 (by kernel_rfl) (by kernel_rfl) (by kernel_rfl) (by kernel_rfl)) ?_
  intro W base args ds gs before hval0 hW hcnd _
  have hval : ∀ (j : Nat) t v, Try.f12.params[j]? = some t → args[j]? = some v → Value.okWide Try.prog W .any base t v := hval0
  have hW' := hW
  obtain ⟨p, q, hA0, hV, rfl, hfz, hnd⟩ := hW
  have hA : DataW.TrodAll enc Try.prog W 0 (fun _ => true) true Try.f12.params.toList args.toList ds p := hA0
  rw [Try.params12] at hA hval
  obtain ⟨v0, vs0, d0, ds0, p0, q0, hargs, rfl, rfl, h0, r0⟩ := trodAll_cons hA
  obtain ⟨v1, vs1, d1, ds1, p1, q1, rfl, rfl, rfl, h1, r1⟩ := trodAll_cons r0
  obtain ⟨rfl, rfl, rfl⟩ := trodAll_nil r1
  obtain rfl : args = #[v0, v1] := by cases args; simp_all
  obtain ⟨rfl, rfl⟩ := trodVars_none hV
  have k0 := h0
  have lt0 : ∀ x ∈ p0, x.block < W.heap.size := by obtain ⟨m, hm⟩ := k0; exact DataW.trod_lt m _ _ _ hm
  obtain ⟨x0, R0, L0, G0⟩ := open_pathS (hval 0 70 v0 rfl rfl) h0
  have k1 := h1
  have lt1 : ∀ x ∈ p1, x.block < W.heap.size := by obtain ⟨m, hm⟩ := k1; exact DataW.trod_lt m _ _ _ hm
  obtain ⟨x1, rfl, G1⟩ := open_i64 (hval 1 3 v1 rfl rfl) h1
  clear hA0 hval0
  refine (lawDisjointPaths x0 _ x1 W R0 L0 G0 G1).mono fun e W' ⟨he, bel⟩ => ?_
  subst he
  exact ⟨_, rfl, _, _, _, [], _, [], hW', trodAll_mk1 (shut_bool Try.underlying4 _), (trodAll_cons_mk (Below.trod laidOut (by kernel_rfl) (of_decide_eq_true (by kernel_rfl)) k0 bel lt0) (trodAll_cons_mk (Below.trod laidOut (by kernel_rfl) (of_decide_eq_true (by kernel_rfl)) k1 bel lt1) trodAll_mk0)), rfl, bel.frame _, fun h => by cases h⟩

theorem jA : jnA Try.pinned.checked.prog Try.f12 Rows.fnExactDisjointPathsSpec Rows.fnExactDisjointPathsRow = true := by kernel_rfl
theorem jB : jnB Try.pinned.checked.prog 12 Rows.fnExactDisjointPathsRow = true := by kernel_rfl
theorem jC : jnC Try.pinned.checked.prog Try.f12 Rows.fnExactDisjointPathsSpec Rows.fnExactDisjointPathsRow = true := by kernel_rfl
theorem jD : jnD Try.pinned.checked.prog = true := by kernel_rfl
theorem jE : jnE Try.pinned.checked.prog = true := by kernel_rfl
theorem jF : jnF Try.pinned.checked.prog Rows.fnExactDisjointPathsRow = true := by kernel_rfl
theorem jG : jnG Try.pinned.checked.prog Rows.fnExactDisjointPathsRow = true := by kernel_rfl
theorem jH : jnH Try.pinned.checked.prog Try.f12 Rows.fnExactDisjointPathsRow = true := by kernel_rfl
theorem jI : jnI Rows.fnExactDisjointPathsRow = true := by kernel_rfl
theorem jJ : jnJ Try.pinned.checked.prog Try.f12 Rows.fnExactDisjointPathsSpec Rows.fnExactDisjointPathsRow = true := by kernel_rfl

theorem over : Rows.fnExactDisjointPathsRow.holds Try.pinned (OpenSpec.ofChange Rows.fnExactDisjointPathsSpec) :=
  OpenClaim.holds_of_wide 12 Try.f12 rfl rfl rfl rfl rfl rfl rfl ⟨rfl, rfl, rfl, rfl, rfl⟩ rfl rfl rfl rfl rfl (by kernel_rfl) Try.func12 (joined_of jA jB jC jD jE jF jG jH jI jJ)
    (of_decide_eq_true (by kernel_rfl)) (by unfold Func.isWrapper; first | (rw [if_pos (by decide +kernel)]; kernel_rfl) | (rw [if_neg (by decide +kernel)]; exact ⟨rfl, rfl⟩))
    (fun os started H enc _ => lifted os started H enc)

theorem proved : Rows.FnExactDisjointPathsSaid := over
#print axioms proved
end fnExactDisjointPaths
end Go.Proofs.Ytfgobdejlfojiaa
