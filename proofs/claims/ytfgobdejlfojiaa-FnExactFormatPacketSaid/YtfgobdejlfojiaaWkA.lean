/- Small functions, walked by the engine: kinds of parts, sums modulo the prime, chaining values. -/
import Derived.Test.YtfgobdejlfojiaaRun
import Derived.Test.YtfgobdejlfojiaaNum
namespace Go.Proofs.Ytfgobdejlfojiaa
open Go.RowKit
set_option linter.unusedVariables false
set_option maxRecDepth 20000

theorem ret_bool {a b : Bool} (h : a = b) : Ending.returned (.bool a) = .returned (.bool b) := by rw [h]

theorem inR_not {n a b : Int} : inR n a b = false ↔ ¬ (a ≤ n ∧ n ≤ b) := by rw [← inR_iff]; simp

/-- Sums modulo the prime, of residues alone. -/
def addM (b s : Int) : Int := if inR b 0 2147483646 && inR s 0 2147483646 then (b + s) % 2147483647 else 0
def subM (b s : Int) : Int := if inR b 0 2147483646 && inR s 0 2147483646 then (b - s + 2147483647) % 2147483647 else 0


theorem impl_AddMod (b s : Int) (w : World) : Calls Try.prog 196 #[I b, I s] w fun e w' => e = .returned (I (addM b s)) ∧ w = w' := by
  have X0 := Below.refl w.heap.size w
  refine enter Try.func196 rfl Try.ntmps196 rfl ?_
  refine w_seq ?_
  refine w_region ?_
  have S := Sep.nil w
  have B := Below.refl w.heap.size w
  have Hb := Nat.le_refl w.heap.size
  refine t_assign rfl ?_ rfl
  refine t_done ?_
  refine x_seq ?_
  refine w_seq ?_
  refine w_seq ?_
  refine w_region ?_
  refine t_move rfl ?_ rfl
  refine t_calls Try.call139 rfl (impl_isResidue _ _) ?_ rfl rfl
  refine t_notb rfl ?_ rfl
  refine t_move rfl ?_ rfl
  refine t_part (t := 8) rfl ?_ ?_
  · intro h1
    refine t_off rfl rfl rfl ?_ rfl
    refine t_off rfl rfl rfl ?_ rfl
    refine t_off rfl rfl rfl ?_ rfl
    refine t_pickt rfl rfl ?_ rfl
    refine t_done ?_
    refine x_seq ?_
    refine w_yes rfl ?_
    refine w_seq ?_
    refine w_region ?_
    refine t_assign rfl ?_ rfl
    refine t_done ?_
    refine x_seq ?_
    refine w_ret ?_
    refine x_then_ret ?_
    refine x_ret1 rfl rfl ?_
    have h1' : inR b 0 2147483646 = false := by simpa using h1
    exact ⟨by simp [addM, h1'], rfl⟩
  · intro h1
    have h1' : inR b 0 2147483646 = true := by simpa using h1
    have r1 := inR_iff.1 h1'
    refine t_on rfl rfl ?_
    refine t_move rfl ?_ rfl
    refine t_on rfl rfl ?_
    refine t_calls Try.call139 rfl (impl_isResidue _ _) ?_ rfl rfl
    refine t_on rfl rfl ?_
    refine t_notb rfl ?_ rfl
    refine t_pickf rfl rfl ?_ rfl
    refine t_done ?_
    refine x_seq ?_
    refine w_ifb rfl ?_ ?_
    · intro h2
      refine w_seq ?_
      refine w_region ?_
      refine t_assign rfl ?_ rfl
      refine t_done ?_
      refine x_seq ?_
      refine w_ret ?_
      refine x_then_ret ?_
      refine x_ret1 rfl rfl ?_
      have h2' : inR s 0 2147483646 = false := by simpa using h2
      exact ⟨by simp [addM, h1', h2'], rfl⟩
    · intro h2
      have h2' : inR s 0 2147483646 = true := by simpa using h2
      have r2 := inR_iff.1 h2'
      refine w_skip ?_
      refine x_seq ?_
      refine w_seq ?_
      refine w_region ?_
      refine t_move rfl ?_ rfl
      refine t_move rfl ?_ rfl
      refine t_add rfl rfl (by omega) ?_ rfl
      refine t_rem rfl rfl (by omega) ?_ rfl
      refine t_assign rfl ?_ rfl
      refine t_done ?_
      refine x_seq ?_
      refine w_ret ?_
      refine x_ret1 rfl rfl ?_
      exact ⟨by simp [addM, h1', h2'], rfl⟩
theorem spec_AddMod (b s : Int) (w : World) : Calls Try.prog 202 #[I b, I s] w fun e w' => e = .returned (I (addM b s)) ∧ w = w' := by
  have X0 := Below.refl w.heap.size w
  refine enter Try.func202 rfl Try.ntmps202 rfl ?_
  refine w_seq ?_
  refine w_region ?_
  have S := Sep.nil w
  have B := Below.refl w.heap.size w
  have Hb := Nat.le_refl w.heap.size
  refine t_assign rfl ?_ rfl
  refine t_done ?_
  refine x_seq ?_
  refine w_seq ?_
  refine w_seq ?_
  refine w_region ?_
  refine t_move rfl ?_ rfl
  refine t_calls Try.call128 rfl (spec_l3Ok _ _) ?_ rfl rfl
  refine t_notb rfl ?_ rfl
  refine t_move rfl ?_ rfl
  refine t_part (t := 8) rfl ?_ ?_
  · intro h1
    refine t_off rfl rfl rfl ?_ rfl
    refine t_off rfl rfl rfl ?_ rfl
    refine t_off rfl rfl rfl ?_ rfl
    refine t_pickt rfl rfl ?_ rfl
    refine t_done ?_
    refine x_seq ?_
    refine w_yes rfl ?_
    refine w_seq ?_
    refine w_region ?_
    refine t_assign rfl ?_ rfl
    refine t_done ?_
    refine x_seq ?_
    refine w_ret ?_
    refine x_then_ret ?_
    refine x_ret1 rfl rfl ?_
    have h1' : inR b 0 2147483646 = false := by simpa using h1
    exact ⟨by simp [addM, h1'], rfl⟩
  · intro h1
    have h1' : inR b 0 2147483646 = true := by simpa using h1
    have r1 := inR_iff.1 h1'
    refine t_on rfl rfl ?_
    refine t_move rfl ?_ rfl
    refine t_on rfl rfl ?_
    refine t_calls Try.call128 rfl (spec_l3Ok _ _) ?_ rfl rfl
    refine t_on rfl rfl ?_
    refine t_notb rfl ?_ rfl
    refine t_pickf rfl rfl ?_ rfl
    refine t_done ?_
    refine x_seq ?_
    refine w_ifb rfl ?_ ?_
    · intro h2
      refine w_seq ?_
      refine w_region ?_
      refine t_assign rfl ?_ rfl
      refine t_done ?_
      refine x_seq ?_
      refine w_ret ?_
      refine x_then_ret ?_
      refine x_ret1 rfl rfl ?_
      have h2' : inR s 0 2147483646 = false := by simpa using h2
      exact ⟨by simp [addM, h1', h2'], rfl⟩
    · intro h2
      have h2' : inR s 0 2147483646 = true := by simpa using h2
      have r2 := inR_iff.1 h2'
      refine w_skip ?_
      refine x_seq ?_
      refine w_seq ?_
      refine w_region ?_
      refine t_move rfl ?_ rfl
      refine t_move rfl ?_ rfl
      refine t_add rfl rfl (by omega) ?_ rfl
      refine t_rem rfl rfl (by omega) ?_ rfl
      refine t_assign rfl ?_ rfl
      refine t_done ?_
      refine x_seq ?_
      refine w_ret ?_
      refine x_ret1 rfl rfl ?_
      exact ⟨by simp [addM, h1', h2'], rfl⟩
theorem impl_SubMod (b s : Int) (w : World) : Calls Try.prog 195 #[I b, I s] w fun e w' => e = .returned (I (subM b s)) ∧ w = w' := by
  have X0 := Below.refl w.heap.size w
  refine enter Try.func195 rfl Try.ntmps195 rfl ?_
  refine w_seq ?_
  refine w_region ?_
  have S := Sep.nil w
  have B := Below.refl w.heap.size w
  have Hb := Nat.le_refl w.heap.size
  refine t_assign rfl ?_ rfl
  refine t_done ?_
  refine x_seq ?_
  refine w_seq ?_
  refine w_seq ?_
  refine w_region ?_
  refine t_move rfl ?_ rfl
  refine t_calls Try.call139 rfl (impl_isResidue _ _) ?_ rfl rfl
  refine t_notb rfl ?_ rfl
  refine t_move rfl ?_ rfl
  refine t_part (t := 8) rfl ?_ ?_
  · intro h1
    refine t_off rfl rfl rfl ?_ rfl
    refine t_off rfl rfl rfl ?_ rfl
    refine t_off rfl rfl rfl ?_ rfl
    refine t_pickt rfl rfl ?_ rfl
    refine t_done ?_
    refine x_seq ?_
    refine w_yes rfl ?_
    refine w_seq ?_
    refine w_region ?_
    refine t_assign rfl ?_ rfl
    refine t_done ?_
    refine x_seq ?_
    refine w_ret ?_
    refine x_then_ret ?_
    refine x_ret1 rfl rfl ?_
    have h1' : inR b 0 2147483646 = false := by simpa using h1
    exact ⟨by simp [subM, h1'], rfl⟩
  · intro h1
    have h1' : inR b 0 2147483646 = true := by simpa using h1
    have r1 := inR_iff.1 h1'
    refine t_on rfl rfl ?_
    refine t_move rfl ?_ rfl
    refine t_on rfl rfl ?_
    refine t_calls Try.call139 rfl (impl_isResidue _ _) ?_ rfl rfl
    refine t_on rfl rfl ?_
    refine t_notb rfl ?_ rfl
    refine t_pickf rfl rfl ?_ rfl
    refine t_done ?_
    refine x_seq ?_
    refine w_ifb rfl ?_ ?_
    · intro h2
      refine w_seq ?_
      refine w_region ?_
      refine t_assign rfl ?_ rfl
      refine t_done ?_
      refine x_seq ?_
      refine w_ret ?_
      refine x_then_ret ?_
      refine x_ret1 rfl rfl ?_
      have h2' : inR s 0 2147483646 = false := by simpa using h2
      exact ⟨by simp [subM, h1', h2'], rfl⟩
    · intro h2
      have h2' : inR s 0 2147483646 = true := by simpa using h2
      have r2 := inR_iff.1 h2'
      refine w_skip ?_
      refine x_seq ?_
      refine w_seq ?_
      refine w_region ?_
      refine t_move rfl ?_ rfl
      refine t_move rfl ?_ rfl
      refine t_sub rfl rfl (by omega) ?_ rfl
      refine t_add rfl rfl (by omega) ?_ rfl
      refine t_rem rfl rfl (by omega) ?_ rfl
      refine t_assign rfl ?_ rfl
      refine t_done ?_
      refine x_seq ?_
      refine w_ret ?_
      refine x_ret1 rfl rfl ?_
      exact ⟨by simp [subM, h1', h2'], rfl⟩
theorem spec_SubMod (b s : Int) (w : World) : Calls Try.prog 201 #[I b, I s] w fun e w' => e = .returned (I (subM b s)) ∧ w = w' := by
  have X0 := Below.refl w.heap.size w
  refine enter Try.func201 rfl Try.ntmps201 rfl ?_
  refine w_seq ?_
  refine w_region ?_
  have S := Sep.nil w
  have B := Below.refl w.heap.size w
  have Hb := Nat.le_refl w.heap.size
  refine t_assign rfl ?_ rfl
  refine t_done ?_
  refine x_seq ?_
  refine w_seq ?_
  refine w_seq ?_
  refine w_region ?_
  refine t_move rfl ?_ rfl
  refine t_calls Try.call128 rfl (spec_l3Ok _ _) ?_ rfl rfl
  refine t_notb rfl ?_ rfl
  refine t_move rfl ?_ rfl
  refine t_part (t := 8) rfl ?_ ?_
  · intro h1
    refine t_off rfl rfl rfl ?_ rfl
    refine t_off rfl rfl rfl ?_ rfl
    refine t_off rfl rfl rfl ?_ rfl
    refine t_pickt rfl rfl ?_ rfl
    refine t_done ?_
    refine x_seq ?_
    refine w_yes rfl ?_
    refine w_seq ?_
    refine w_region ?_
    refine t_assign rfl ?_ rfl
    refine t_done ?_
    refine x_seq ?_
    refine w_ret ?_
    refine x_then_ret ?_
    refine x_ret1 rfl rfl ?_
    have h1' : inR b 0 2147483646 = false := by simpa using h1
    exact ⟨by simp [subM, h1'], rfl⟩
  · intro h1
    have h1' : inR b 0 2147483646 = true := by simpa using h1
    have r1 := inR_iff.1 h1'
    refine t_on rfl rfl ?_
    refine t_move rfl ?_ rfl
    refine t_on rfl rfl ?_
    refine t_calls Try.call128 rfl (spec_l3Ok _ _) ?_ rfl rfl
    refine t_on rfl rfl ?_
    refine t_notb rfl ?_ rfl
    refine t_pickf rfl rfl ?_ rfl
    refine t_done ?_
    refine x_seq ?_
    refine w_ifb rfl ?_ ?_
    · intro h2
      refine w_seq ?_
      refine w_region ?_
      refine t_assign rfl ?_ rfl
      refine t_done ?_
      refine x_seq ?_
      refine w_ret ?_
      refine x_then_ret ?_
      refine x_ret1 rfl rfl ?_
      have h2' : inR s 0 2147483646 = false := by simpa using h2
      exact ⟨by simp [subM, h1', h2'], rfl⟩
    · intro h2
      have h2' : inR s 0 2147483646 = true := by simpa using h2
      have r2 := inR_iff.1 h2'
      refine w_skip ?_
      refine x_seq ?_
      refine w_seq ?_
      refine w_region ?_
      refine t_move rfl ?_ rfl
      refine t_move rfl ?_ rfl
      refine t_sub rfl rfl (by omega) ?_ rfl
      refine t_add rfl rfl (by omega) ?_ rfl
      refine t_rem rfl rfl (by omega) ?_ rfl
      refine t_assign rfl ?_ rfl
      refine t_done ?_
      refine x_seq ?_
      refine w_ret ?_
      refine x_ret1 rfl rfl ?_
      exact ⟨by simp [subM, h1', h2'], rfl⟩

end Go.Proofs.Ytfgobdejlfojiaa
