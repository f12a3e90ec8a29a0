/- impl.VerdictName and spec.VerdictName: the same table. -/
import Derived.Test.YtemhpcpdeloajaaNum
namespace Go.Proofs.Ytemhpcpdeloajaa
open Go.RowKit
set_option linter.unusedVariables false

def vnames : List (Array UInt8) := [#[102, 111, 114, 119, 97, 114, 100], #[100, 101, 108, 105, 118, 101, 114], #[109, 97, 108, 102, 111, 114, 109, 101, 100], #[105, 110, 103, 114, 101, 115, 115], #[109, 97, 99], #[101, 120, 112, 105, 114, 101, 100], #[116, 114, 97, 110, 115, 105, 116], #[108, 105, 110, 107, 100, 111, 119, 110]]
/-- The name of a code; nothing outside 0 to 7. -/
def vname (n : Int) : ByteArray := if inR n 0 7 then ⟨vnames.getD n.toNat #[]⟩ else ⟨#[]⟩

theorem cases8 {n : Int} (h1 : 0 ≤ n) (h2 : n ≤ 7) : n = 0 ∨ n = 1 ∨ n = 2 ∨ n = 3 ∨ n = 4 ∨ n = 5 ∨ n = 6 ∨ n = 7 := by omega

set_option maxRecDepth 100000 in
theorem impl_VerdictName (n : Int) (w : World) (hg : In64 n) : Calls Try.prog 16 #[I n] w fun e w' => e = .returned (.string (vname n)) ∧ Below w.heap.size w w' := by
  clear hg
  cases hb : inR n 0 7
  · have hv : vname n = ⟨#[]⟩ := by simp [vname, hb]
    rw [hv]
    clear hv
    go_enter Try.func16, Try.ntmps16
    go_wp2_with (go_at_call 54; refine (impl_InRange _ _ _ _).mono ?_; rintro e w1 ⟨rfl, rfl⟩)
    go_ret
    exact ⟨rfl, Below.refl _ _⟩
  · obtain ⟨h1, h2⟩ := inR_iff.1 hb
    clear hb
    rcases cases8 h1 h2 with rfl | rfl | rfl | rfl | rfl | rfl | rfl | rfl
    · clear h1 h2
      have ix : ∀ w : World, (Instr.index 71 (Value.agg #[Value.string ⟨#[102, 111, 114, 119, 97, 114, 100]⟩, Value.string ⟨#[100, 101, 108, 105, 118, 101, 114]⟩, Value.string ⟨#[109, 97, 108, 102, 111, 114, 109, 101, 100]⟩, Value.string ⟨#[105, 110, 103, 114, 101, 115, 115]⟩, Value.string ⟨#[109, 97, 99]⟩, Value.string ⟨#[101, 120, 112, 105, 114, 101, 100]⟩, Value.string ⟨#[116, 114, 97, 110, 115, 105, 116]⟩, Value.string ⟨#[108, 105, 110, 107, 100, 111, 119, 110]⟩]) (I 0)).run Try.prog w = .ok (Value.string ⟨#[102, 111, 114, 119, 97, 114, 100]⟩) w := fun _ => by kernel_rfl
      go_enter Try.func16, Try.ntmps16
      go_wp2_with (go_at_call 54; refine (impl_InRange _ _ _ _).mono ?_; rintro e w1 ⟨rfl, rfl⟩; rw [inR_yes (by omega) (by omega)])
      go_ret
      exact ⟨rfl, Below.refl _ _⟩
    · clear h1 h2
      have ix : ∀ w : World, (Instr.index 71 (Value.agg #[Value.string ⟨#[102, 111, 114, 119, 97, 114, 100]⟩, Value.string ⟨#[100, 101, 108, 105, 118, 101, 114]⟩, Value.string ⟨#[109, 97, 108, 102, 111, 114, 109, 101, 100]⟩, Value.string ⟨#[105, 110, 103, 114, 101, 115, 115]⟩, Value.string ⟨#[109, 97, 99]⟩, Value.string ⟨#[101, 120, 112, 105, 114, 101, 100]⟩, Value.string ⟨#[116, 114, 97, 110, 115, 105, 116]⟩, Value.string ⟨#[108, 105, 110, 107, 100, 111, 119, 110]⟩]) (I 1)).run Try.prog w = .ok (Value.string ⟨#[100, 101, 108, 105, 118, 101, 114]⟩) w := fun _ => by kernel_rfl
      go_enter Try.func16, Try.ntmps16
      go_wp2_with (go_at_call 54; refine (impl_InRange _ _ _ _).mono ?_; rintro e w1 ⟨rfl, rfl⟩; rw [inR_yes (by omega) (by omega)])
      go_ret
      exact ⟨rfl, Below.refl _ _⟩
    · clear h1 h2
      have ix : ∀ w : World, (Instr.index 71 (Value.agg #[Value.string ⟨#[102, 111, 114, 119, 97, 114, 100]⟩, Value.string ⟨#[100, 101, 108, 105, 118, 101, 114]⟩, Value.string ⟨#[109, 97, 108, 102, 111, 114, 109, 101, 100]⟩, Value.string ⟨#[105, 110, 103, 114, 101, 115, 115]⟩, Value.string ⟨#[109, 97, 99]⟩, Value.string ⟨#[101, 120, 112, 105, 114, 101, 100]⟩, Value.string ⟨#[116, 114, 97, 110, 115, 105, 116]⟩, Value.string ⟨#[108, 105, 110, 107, 100, 111, 119, 110]⟩]) (I 2)).run Try.prog w = .ok (Value.string ⟨#[109, 97, 108, 102, 111, 114, 109, 101, 100]⟩) w := fun _ => by kernel_rfl
      go_enter Try.func16, Try.ntmps16
      go_wp2_with (go_at_call 54; refine (impl_InRange _ _ _ _).mono ?_; rintro e w1 ⟨rfl, rfl⟩; rw [inR_yes (by omega) (by omega)])
      go_ret
      exact ⟨rfl, Below.refl _ _⟩
    · clear h1 h2
      have ix : ∀ w : World, (Instr.index 71 (Value.agg #[Value.string ⟨#[102, 111, 114, 119, 97, 114, 100]⟩, Value.string ⟨#[100, 101, 108, 105, 118, 101, 114]⟩, Value.string ⟨#[109, 97, 108, 102, 111, 114, 109, 101, 100]⟩, Value.string ⟨#[105, 110, 103, 114, 101, 115, 115]⟩, Value.string ⟨#[109, 97, 99]⟩, Value.string ⟨#[101, 120, 112, 105, 114, 101, 100]⟩, Value.string ⟨#[116, 114, 97, 110, 115, 105, 116]⟩, Value.string ⟨#[108, 105, 110, 107, 100, 111, 119, 110]⟩]) (I 3)).run Try.prog w = .ok (Value.string ⟨#[105, 110, 103, 114, 101, 115, 115]⟩) w := fun _ => by kernel_rfl
      go_enter Try.func16, Try.ntmps16
      go_wp2_with (go_at_call 54; refine (impl_InRange _ _ _ _).mono ?_; rintro e w1 ⟨rfl, rfl⟩; rw [inR_yes (by omega) (by omega)])
      go_ret
      exact ⟨rfl, Below.refl _ _⟩
    · clear h1 h2
      have ix : ∀ w : World, (Instr.index 71 (Value.agg #[Value.string ⟨#[102, 111, 114, 119, 97, 114, 100]⟩, Value.string ⟨#[100, 101, 108, 105, 118, 101, 114]⟩, Value.string ⟨#[109, 97, 108, 102, 111, 114, 109, 101, 100]⟩, Value.string ⟨#[105, 110, 103, 114, 101, 115, 115]⟩, Value.string ⟨#[109, 97, 99]⟩, Value.string ⟨#[101, 120, 112, 105, 114, 101, 100]⟩, Value.string ⟨#[116, 114, 97, 110, 115, 105, 116]⟩, Value.string ⟨#[108, 105, 110, 107, 100, 111, 119, 110]⟩]) (I 4)).run Try.prog w = .ok (Value.string ⟨#[109, 97, 99]⟩) w := fun _ => by kernel_rfl
      go_enter Try.func16, Try.ntmps16
      go_wp2_with (go_at_call 54; refine (impl_InRange _ _ _ _).mono ?_; rintro e w1 ⟨rfl, rfl⟩; rw [inR_yes (by omega) (by omega)])
      go_ret
      exact ⟨rfl, Below.refl _ _⟩
    · clear h1 h2
      have ix : ∀ w : World, (Instr.index 71 (Value.agg #[Value.string ⟨#[102, 111, 114, 119, 97, 114, 100]⟩, Value.string ⟨#[100, 101, 108, 105, 118, 101, 114]⟩, Value.string ⟨#[109, 97, 108, 102, 111, 114, 109, 101, 100]⟩, Value.string ⟨#[105, 110, 103, 114, 101, 115, 115]⟩, Value.string ⟨#[109, 97, 99]⟩, Value.string ⟨#[101, 120, 112, 105, 114, 101, 100]⟩, Value.string ⟨#[116, 114, 97, 110, 115, 105, 116]⟩, Value.string ⟨#[108, 105, 110, 107, 100, 111, 119, 110]⟩]) (I 5)).run Try.prog w = .ok (Value.string ⟨#[101, 120, 112, 105, 114, 101, 100]⟩) w := fun _ => by kernel_rfl
      go_enter Try.func16, Try.ntmps16
      go_wp2_with (go_at_call 54; refine (impl_InRange _ _ _ _).mono ?_; rintro e w1 ⟨rfl, rfl⟩; rw [inR_yes (by omega) (by omega)])
      go_ret
      exact ⟨rfl, Below.refl _ _⟩
    · clear h1 h2
      have ix : ∀ w : World, (Instr.index 71 (Value.agg #[Value.string ⟨#[102, 111, 114, 119, 97, 114, 100]⟩, Value.string ⟨#[100, 101, 108, 105, 118, 101, 114]⟩, Value.string ⟨#[109, 97, 108, 102, 111, 114, 109, 101, 100]⟩, Value.string ⟨#[105, 110, 103, 114, 101, 115, 115]⟩, Value.string ⟨#[109, 97, 99]⟩, Value.string ⟨#[101, 120, 112, 105, 114, 101, 100]⟩, Value.string ⟨#[116, 114, 97, 110, 115, 105, 116]⟩, Value.string ⟨#[108, 105, 110, 107, 100, 111, 119, 110]⟩]) (I 6)).run Try.prog w = .ok (Value.string ⟨#[116, 114, 97, 110, 115, 105, 116]⟩) w := fun _ => by kernel_rfl
      go_enter Try.func16, Try.ntmps16
      go_wp2_with (go_at_call 54; refine (impl_InRange _ _ _ _).mono ?_; rintro e w1 ⟨rfl, rfl⟩; rw [inR_yes (by omega) (by omega)])
      go_ret
      exact ⟨rfl, Below.refl _ _⟩
    · clear h1 h2
      have ix : ∀ w : World, (Instr.index 71 (Value.agg #[Value.string ⟨#[102, 111, 114, 119, 97, 114, 100]⟩, Value.string ⟨#[100, 101, 108, 105, 118, 101, 114]⟩, Value.string ⟨#[109, 97, 108, 102, 111, 114, 109, 101, 100]⟩, Value.string ⟨#[105, 110, 103, 114, 101, 115, 115]⟩, Value.string ⟨#[109, 97, 99]⟩, Value.string ⟨#[101, 120, 112, 105, 114, 101, 100]⟩, Value.string ⟨#[116, 114, 97, 110, 115, 105, 116]⟩, Value.string ⟨#[108, 105, 110, 107, 100, 111, 119, 110]⟩]) (I 7)).run Try.prog w = .ok (Value.string ⟨#[108, 105, 110, 107, 100, 111, 119, 110]⟩) w := fun _ => by kernel_rfl
      go_enter Try.func16, Try.ntmps16
      go_wp2_with (go_at_call 54; refine (impl_InRange _ _ _ _).mono ?_; rintro e w1 ⟨rfl, rfl⟩; rw [inR_yes (by omega) (by omega)])
      go_ret
      exact ⟨rfl, Below.refl _ _⟩

set_option maxRecDepth 100000 in
theorem spec_VerdictName (n : Int) (w : World) (hg : In64 n) : Calls Try.prog 15 #[I n] w fun e w' => e = .returned (.string (vname n)) ∧ Below w.heap.size w w' := by
  clear hg
  cases hb : inR n 0 7
  · have hv : vname n = ⟨#[]⟩ := by simp [vname, hb]
    rw [hv]
    clear hv
    go_enter Try.func15, Try.ntmps15
    go_wp2_with (go_at_call 53; refine (spec_l1In _ _ _ _).mono ?_; rintro e w1 ⟨rfl, rfl⟩)
    go_ret
    exact ⟨rfl, ext_alloc1 _ _⟩
  · obtain ⟨h1, h2⟩ := inR_iff.1 hb
    clear hb
    rcases cases8 h1 h2 with rfl | rfl | rfl | rfl | rfl | rfl | rfl | rfl
    all_goals
      clear h1 h2
      go_enter Try.func15, Try.ntmps15
      go_wp2_with (go_at_call 53; refine (spec_l1In _ _ _ _).mono ?_; rintro e w1 ⟨rfl, rfl⟩; rw [inR_yes (by omega) (by omega)])
      go_ret
      exact ⟨rfl, ext_alloc1 _ _⟩

end Go.Proofs.Ytemhpcpdeloajaa
