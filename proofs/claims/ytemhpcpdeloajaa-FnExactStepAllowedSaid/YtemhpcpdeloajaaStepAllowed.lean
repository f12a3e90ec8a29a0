/- impl.StepAllowed and spec.StepAllowed. -/
import Derived.Test.YtemhpcpdeloajaaTopo
import Derived.Test.YtemhpcpdeloajaaTransit
import Derived.Test.YtemhpcpdeloajaaFamStep
import Derived.Test.YtemhpcpdeloajaaMemB
namespace Go.Proofs.Ytemhpcpdeloajaa
open Go.RowKit
set_option linter.unusedVariables false

def stepOk (t : Topo) (s : Stp) : Bool := transit (ifKind t s.ia s.ing) (ifKind t s.ia s.eg) && ((s.ing != s.eg) || (s.ing == 0))

set_option maxRecDepth 100000 in
set_option maxHeartbeats 1000000 in
theorem impl_StepAllowed (t : Topo) (cs : List Value) (s : Stp) (w : World) (h : topoT.R w cs t) (hz : sz_topo t ≤ 1048576) (hl : lenOk_topo t) (hg : rng_topo t) (hs : rng_step s) :
    Calls Try.prog 49 #[.agg cs.toArray, .agg #[I s.ia, I s.ing, I s.eg]] w fun e w' => e = .returned (.bool (stepOk t s)) ∧ Below w.heap.size w w' := by
  obtain ⟨A0, cA0, A1, cA1, rfl, _⟩ := topo_form h
  clear hl hg hs
  obtain ⟨q, Hq⟩ : ∃ q, Hid (q = stepOk t s) := ⟨_, rfl⟩
  rw [← Hq.out]
  obtain ⟨W, HW⟩ : ∃ W, Hid (W = (w.alloc (.cells #[.slice A0 t.ases.length cA0, .slice A1 t.links.length cA1] 61)).alloc (.cells #[I s.ia, I s.ing, I s.eg] 63)) := ⟨_, rfl⟩
  have x0 : Below w.heap.size w W := by rw [HW.out]; exact ext_alloc (ext_alloc1 _ _) _
  have a0 : ∀ n : Xt W, n.w.cell? ⟨w.heap.size, 0, none⟩ = some (.slice A0 t.ases.length cA0) := fun n => ck n.h (by rw [HW.out]; simp)
  have a1 : ∀ n : Xt W, n.w.cell? ⟨w.heap.size, 1, none⟩ = some (.slice A1 t.links.length cA1) := fun n => ck n.h (by rw [HW.out]; simp)
  have a2 : ∀ n : Xt W, n.w.cell? ⟨w.heap.size + 1, 0, none⟩ = some (I s.ia) := fun n => ck n.h (by rw [HW.out]; simp)
  have a3 : ∀ n : Xt W, n.w.cell? ⟨w.heap.size + 1, 1, none⟩ = some (I s.ing) := fun n => ck n.h (by rw [HW.out]; simp)
  have a4 : ∀ n : Xt W, n.w.cell? ⟨w.heap.size + 1, 2, none⟩ = some (I s.eg) := fun n => ck n.h (by rw [HW.out]; simp)
  obtain ⟨b, ht⟩ : ∃ b, transit (ifKind t s.ia s.ing) (ifKind t s.ia s.eg) = b := ⟨_, rfl⟩
  have HT := hid fun w => impl_transit (ifKind t s.ia s.ing) (ifKind t s.ia s.eg) w
  rw [ht] at HT
  cases b
  · go_enter Try.func49, Try.ntmps49
    go_wp2_with (fail)
    rw [← HW.out]
    refine wp_region_ext (by kernel_rfl) (by kernel_rfl) ?_
    repeat (go_big_quiet_step (first | (go_at_call 76; exact ext_of _ (impl_ifKind t _ _ _ _ (topoT.kp h (ext_trans x0 (Xt.h _))) hz)) | (go_at_call 18; exact ext_of_same _ (HT.out _))))
    refine wpQuiet_nil ?_
    rintro _ ⟨⟨w1, hb1⟩, rfl⟩
    go_wp2_with (fail)
    go_ret
    exact ⟨by rw [Hq.out]; simp [stepOk, ht], ext_trans x0 hb1⟩
  · cases h1 : (s.ing != s.eg)
    · cases h2 : (s.ing == 0)
      all_goals
        go_enter Try.func49, Try.ntmps49
        go_wp2_with (fail)
        rw [← HW.out]
        refine wp_region_ext (by kernel_rfl) (by kernel_rfl) ?_
        repeat (go_big_quiet_step (first | (go_at_call 76; exact ext_of _ (impl_ifKind t _ _ _ _ (topoT.kp h (ext_trans x0 (Xt.h _))) hz)) | (go_at_call 18; exact ext_of_same _ (HT.out _))))
        refine wpQuiet_nil ?_
        rintro _ ⟨⟨w1, hb1⟩, rfl⟩
        go_wp2_with (fail)
        go_ret
        exact ⟨by rw [Hq.out]; simp [stepOk, ht, h1, h2], ext_trans x0 hb1⟩
    · go_enter Try.func49, Try.ntmps49
      go_wp2_with (fail)
      rw [← HW.out]
      refine wp_region_ext (by kernel_rfl) (by kernel_rfl) ?_
      repeat (go_big_quiet_step (first | (go_at_call 76; exact ext_of _ (impl_ifKind t _ _ _ _ (topoT.kp h (ext_trans x0 (Xt.h _))) hz)) | (go_at_call 18; exact ext_of_same _ (HT.out _))))
      refine wpQuiet_nil ?_
      rintro _ ⟨⟨w1, hb1⟩, rfl⟩
      go_wp2_with (fail)
      go_ret
      exact ⟨by rw [Hq.out]; simp [stepOk, ht, h1], ext_trans x0 hb1⟩

set_option maxRecDepth 100000 in
set_option maxHeartbeats 1000000 in
theorem spec_StepAllowed (t : Topo) (cs : List Value) (s : Stp) (w : World) (h : topoT.R w cs t) (hz : sz_topo t ≤ 1048576) (hl : lenOk_topo t) (hg : rng_topo t) (hs : rng_step s) :
    Calls Try.prog 46 #[.agg cs.toArray, .agg #[I s.ia, I s.ing, I s.eg]] w fun e w' => e = .returned (.bool (stepOk t s)) ∧ Below w.heap.size w w' := by
  obtain ⟨A0, cA0, A1, cA1, rfl, _⟩ := topo_form h
  clear hl hg hs
  obtain ⟨q, Hq⟩ : ∃ q, Hid (q = stepOk t s) := ⟨_, rfl⟩
  rw [← Hq.out]
  obtain ⟨W, HW⟩ : ∃ W, Hid (W = (w.alloc (.cells #[.slice A0 t.ases.length cA0, .slice A1 t.links.length cA1] 61)).alloc (.cells #[I s.ia, I s.ing, I s.eg] 63)) := ⟨_, rfl⟩
  have x0 : Below w.heap.size w W := by rw [HW.out]; exact ext_alloc (ext_alloc1 _ _) _
  have a0 : ∀ n : Xt W, n.w.cell? ⟨w.heap.size, 0, none⟩ = some (.slice A0 t.ases.length cA0) := fun n => ck n.h (by rw [HW.out]; simp)
  have a1 : ∀ n : Xt W, n.w.cell? ⟨w.heap.size, 1, none⟩ = some (.slice A1 t.links.length cA1) := fun n => ck n.h (by rw [HW.out]; simp)
  have a2 : ∀ n : Xt W, n.w.cell? ⟨w.heap.size + 1, 0, none⟩ = some (I s.ia) := fun n => ck n.h (by rw [HW.out]; simp)
  have a3 : ∀ n : Xt W, n.w.cell? ⟨w.heap.size + 1, 1, none⟩ = some (I s.ing) := fun n => ck n.h (by rw [HW.out]; simp)
  have a4 : ∀ n : Xt W, n.w.cell? ⟨w.heap.size + 1, 2, none⟩ = some (I s.eg) := fun n => ck n.h (by rw [HW.out]; simp)
  obtain ⟨b, ht⟩ : ∃ b, transit (ifKind t s.ia s.ing) (ifKind t s.ia s.eg) = b := ⟨_, rfl⟩
  have HT := hid fun w => spec_transit (ifKind t s.ia s.ing) (ifKind t s.ia s.eg) w
  rw [ht] at HT
  cases h1 : (s.ing == s.eg)
  · have h1' : (s.ing != s.eg) = true := by simp only [bne, h1]; rfl
    cases b
    all_goals
      go_enter Try.func46, Try.ntmps46
      go_wp2_with (fail)
      rw [← HW.out]
      refine wp_region_ext (by kernel_rfl) (by kernel_rfl) ?_
      repeat (go_big_quiet_step (first | (go_at_call 73; exact ext_of _ (spec_ifKind t _ _ _ _ (topoT.kp h (ext_trans x0 (Xt.h _))) hz)) | (go_at_call 17; exact ext_of_same _ (HT.out _))))
      refine wpQuiet_nil ?_
      rintro _ ⟨⟨w1, hb1⟩, rfl⟩
      go_wp2_with (fail)
      go_ret
      exact ⟨by rw [Hq.out]; simp [stepOk, ht, h1'], ext_trans x0 hb1⟩
  · have h1' : (s.ing != s.eg) = false := by simp only [bne, h1]; rfl
    cases h2 : (s.ing == 0)
    · have h2' : (s.ing != 0) = true := by simp only [bne, h2]; rfl
      go_enter Try.func46, Try.ntmps46
      go_wp2_with (fail)
      go_ret
      exact ⟨by rw [Hq.out]; simp [stepOk, h1', h2], ext_alloc (ext_alloc1 _ _) _⟩
    · have h2' : (s.ing != 0) = false := by simp only [bne, h2]; rfl
      cases b
      all_goals
        go_enter Try.func46, Try.ntmps46
        go_wp2_with (fail)
        rw [← HW.out]
        refine wp_region_ext (by kernel_rfl) (by kernel_rfl) ?_
        repeat (go_big_quiet_step (first | (go_at_call 73; exact ext_of _ (spec_ifKind t _ _ _ _ (topoT.kp h (ext_trans x0 (Xt.h _))) hz)) | (go_at_call 17; exact ext_of_same _ (HT.out _))))
        refine wpQuiet_nil ?_
        rintro _ ⟨⟨w1, hb1⟩, rfl⟩
        go_wp2_with (fail)
        go_ret
        exact ⟨by rw [Hq.out]; simp [stepOk, ht, h1', h2], ext_trans x0 hb1⟩

end Go.Proofs.Ytemhpcpdeloajaa
