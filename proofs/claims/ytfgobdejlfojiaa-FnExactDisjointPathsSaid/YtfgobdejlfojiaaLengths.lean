/- PathLength, Endpoints, of the program and of the reference. -/
import Derived.Test.YtfgobdejlfojiaaPathStepsB
namespace Go.Proofs.Ytfgobdejlfojiaa
open Go.RowKit
set_option linter.unusedVariables false

set_option maxRecDepth 100000 in
theorem impl_PathLength (p : Path) (cs : List Value) (w : World) (h : pathT.R w cs p) (hz : sz_path p ≤ 1048576) (hl : lenOk_path p) (hg : rng_path p) :
    Calls Try.prog 165 #[.agg cs.toArray] w fun e w' => e = .returned (I ((pathSteps p).length : Int)) ∧ Below w.heap.size w w' := by
  have h0 := h
  obtain ⟨A, c, rfl, _⟩ := path_form h
  have HC := hid fun w' (hw : Below w.heap.size w w') => impl_PathSteps p _ w' (pathT.kp h0 hw) hz hl hg
  clear hz hl hg h h0
  have hb0 : Below w.heap.size w (w.alloc (.cells #[.slice A (List.length p) c] 39)) := ext_alloc1 _ _
  go_enter Try.func165, Try.ntmps165
  go_wp2_with (fail)
  refine (HC.out _ hb0).mono ?_
  rintro e w1 ⟨v1, fp1, rfl, hO1, hb1⟩
  obtain ⟨Av, cv, ev, _⟩ := hO1.form
  subst ev
  go_wp2_with (fail)
  go_ret
  exact ⟨rfl, ext_trans hb0 hb1⟩
set_option maxRecDepth 100000 in
theorem spec_PathLength (p : Path) (cs : List Value) (w : World) (h : pathT.R w cs p) (hz : sz_path p ≤ 1048576) (hl : lenOk_path p) (hg : rng_path p) :
    Calls Try.prog 162 #[.agg cs.toArray] w fun e w' => e = .returned (I ((pathSteps p).length : Int)) ∧ Below w.heap.size w w' := by
  have h0 := h
  obtain ⟨A, c, rfl, _⟩ := path_form h
  have HC := hid fun w' (hw : Below w.heap.size w w') => spec_PathSteps p _ w' (pathT.kp h0 hw) hz hl hg
  clear hz hl hg h h0
  have hb0 : Below w.heap.size w (w.alloc (.cells #[.slice A (List.length p) c] 39)) := ext_alloc1 _ _
  go_enter Try.func162, Try.ntmps162
  go_wp2_with (fail)
  refine (HC.out _ hb0).mono ?_
  rintro e w1 ⟨v1, fp1, rfl, hO1, hb1⟩
  obtain ⟨Av, cv, ev, _⟩ := hO1.form
  subst ev
  go_wp2_with (fail)
  go_ret
  exact ⟨rfl, ext_trans hb0 hb1⟩

/-- The ends of a path. -/
def endA (p : Path) : Int := if (pathSteps p).length = 0 then -1 else (firstOf (pathSteps p)).ia
def endB (p : Path) : Int := if (pathSteps p).length = 0 then -1 else (lastOf (pathSteps p)).ia

set_option maxRecDepth 100000 in
set_option maxHeartbeats 1000000 in
theorem impl_Endpoints (p : Path) (cs : List Value) (w : World) (h : pathT.R w cs p) (hz : sz_path p ≤ 1048576) (hl : lenOk_path p) (hg : rng_path p) :
    Calls Try.prog 105 #[.agg cs.toArray] w fun e w' => e = .returned (.tuple #[I (endA p), I (endB p)]) ∧ Below w.heap.size w w' := by
  have h0 := h
  obtain ⟨A, c, rfl, _⟩ := path_form h
  have hsl := Nat.le_trans (pathSteps_len p) hz
  have HC := hid fun w' (hw : Below w.heap.size w w') => impl_PathSteps p _ w' (pathT.kp h0 hw) hz hl hg
  clear hz hl hg h h0
  have hb0 : Below w.heap.size w (w.alloc (.cells #[.slice A (List.length p) c] 39)) := ext_alloc1 _ _
  obtain ⟨a, Ha⟩ : ∃ a, Hid (a = endA p) := ⟨_, rfl⟩
  obtain ⟨b, Hb⟩ : ∃ b, Hid (b = endB p) := ⟨_, rfl⟩
  rw [← Ha.out, ← Hb.out]
  go_enter Try.func105, Try.ntmps105
  go_wp2_with (fail)
  refine (HC.out _ hb0).mono ?_
  rintro e w1 ⟨v1, fp1, rfl, hO1, hb1⟩
  obtain ⟨Av, cv, ev, _⟩ := hO1.form
  subst ev
  obtain ⟨l, Hl⟩ : ∃ l, Hid (l = pathSteps p) := ⟨_, rfl⟩
  rw [← Hl.out] at hO1 hsl ⊢
  have x1 := hid (ext_trans hb0 hb1)
  clear hb0 hb1 HC
  rcases Nat.eq_zero_or_pos l.length with hl0 | hl0
  · have HA : Hid (a = -1) := by show _ = _; rw [Ha.out]; unfold endA; rw [← Hl.out, if_pos hl0]
    have HB : Hid (b = -1) := by show _ = _; rw [Hb.out]; unfold endB; rw [← Hl.out, if_pos hl0]
    rw [hl0]
    clear hl0 hO1 hsl
    go_wp2_with (fail)
    go_ret2
    exact ⟨by rw [HA.out, HB.out]; rfl, x1.out⟩
  · obtain ⟨L, HL⟩ : ∃ L, l.length = L + 1 := ⟨l.length - 1, by omega⟩
    obtain ⟨g, o, q, sf, e1, hg1, hsf, r0, r1, r2⟩ := step_at (k := 0) hO1.read (by omega)
    cases e1
    obtain ⟨g', o', q', sg, e2, hg2, hsg, s0, s1, s2⟩ := step_at (k := L) hO1.read (by omega)
    cases e2
    simp only [Nat.zero_mul, Nat.add_zero] at r0 r1 r2
    have HA : Hid (a = sf.ia) := by show _ = _; rw [Ha.out]; unfold endA; rw [← Hl.out, if_neg (by omega), firstOf_at hsf.out]
    have HB : Hid (b = sg.ia) := by show _ = _; rw [Hb.out]; unfold endB; rw [← Hl.out, if_neg (by omega), lastOf_at (by rw [HL]; exact hsg.out)]
    have hL2 : L ≤ 1048576 := by omega
    have hL3 : L < L + 1 := Nat.lt_succ_self L
    rw [HL] at hO1 ⊢
    clear hl0 HL r1 r2 s1 s2 hsl
    go_wp2_with (fail)
    go_quiet (fail)
    go_wp2_with (fail)
    go_ret2
    exact ⟨by rw [HA.out, HB.out]; rfl, below_drewN x1.out _⟩
set_option maxRecDepth 100000 in
set_option maxHeartbeats 1000000 in
theorem spec_Endpoints (p : Path) (cs : List Value) (w : World) (h : pathT.R w cs p) (hz : sz_path p ≤ 1048576) (hl : lenOk_path p) (hg : rng_path p) :
    Calls Try.prog 101 #[.agg cs.toArray] w fun e w' => e = .returned (.tuple #[I (endA p), I (endB p)]) ∧ Below w.heap.size w w' := by
  have h0 := h
  obtain ⟨A, c, rfl, _⟩ := path_form h
  have hsl := Nat.le_trans (pathSteps_len p) hz
  have HC := hid fun w' (hw : Below w.heap.size w w') => spec_PathSteps p _ w' (pathT.kp h0 hw) hz hl hg
  clear hz hl hg h h0
  have hb0 : Below w.heap.size w (w.alloc (.cells #[.slice A (List.length p) c] 39)) := ext_alloc1 _ _
  obtain ⟨a, Ha⟩ : ∃ a, Hid (a = endA p) := ⟨_, rfl⟩
  obtain ⟨b, Hb⟩ : ∃ b, Hid (b = endB p) := ⟨_, rfl⟩
  rw [← Ha.out, ← Hb.out]
  go_enter Try.func101, Try.ntmps101
  go_wp2_with (fail)
  refine (HC.out _ hb0).mono ?_
  rintro e w1 ⟨v1, fp1, rfl, hO1, hb1⟩
  obtain ⟨Av, cv, ev, _⟩ := hO1.form
  subst ev
  obtain ⟨l, Hl⟩ : ∃ l, Hid (l = pathSteps p) := ⟨_, rfl⟩
  rw [← Hl.out] at hO1 hsl ⊢
  have x1 := hid (ext_trans hb0 hb1)
  clear hb0 hb1 HC
  rcases Nat.eq_zero_or_pos l.length with hl0 | hl0
  · have HA : Hid (a = -1) := by show _ = _; rw [Ha.out]; unfold endA; rw [← Hl.out, if_pos hl0]
    have HB : Hid (b = -1) := by show _ = _; rw [Hb.out]; unfold endB; rw [← Hl.out, if_pos hl0]
    rw [hl0]
    clear hl0 hO1 hsl
    go_wp2_with (fail)
    go_ret2
    exact ⟨by rw [HA.out, HB.out]; rfl, x1.out⟩
  · obtain ⟨L, HL⟩ : ∃ L, l.length = L + 1 := ⟨l.length - 1, by omega⟩
    obtain ⟨g, o, q, sf, e1, hg1, hsf, r0, r1, r2⟩ := step_at (k := 0) hO1.read (by omega)
    cases e1
    obtain ⟨g', o', q', sg, e2, hg2, hsg, s0, s1, s2⟩ := step_at (k := L) hO1.read (by omega)
    cases e2
    simp only [Nat.zero_mul, Nat.add_zero] at r0 r1 r2
    have HA : Hid (a = sf.ia) := by show _ = _; rw [Ha.out]; unfold endA; rw [← Hl.out, if_neg (by omega), firstOf_at hsf.out]
    have HB : Hid (b = sg.ia) := by show _ = _; rw [Hb.out]; unfold endB; rw [← Hl.out, if_neg (by omega), lastOf_at (by rw [HL]; exact hsg.out)]
    have hL2 : L ≤ 1048576 := by omega
    have hL3 : L < L + 1 := Nat.lt_succ_self L
    rw [HL] at hO1 ⊢
    clear hl0 HL r1 r2 s1 s2 hsl
    go_wp2_with (fail)
    go_quiet (fail)
    go_wp2_with (fail)
    go_ret2
    exact ⟨by rw [HA.out, HB.out]; rfl, below_drewN x1.out _⟩

end Go.Proofs.Ytfgobdejlfojiaa
