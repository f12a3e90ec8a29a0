/- Small functions on numbers: InRange, isResidue, Mod, the digest. -/
import Derived.Test.YtfgobdejlfojiaaRows
import Derived.Test.YtfgobdejlfojiaaPlain
import Derived.WalkKit
import Derived.WalkSpells
import Derived.WalkLawsBesides
namespace Go.Proofs.Ytfgobdejlfojiaa
open Go.RowKit
set_option linter.unusedVariables false

/-- n lies between a and b. -/
def inR (n a b : Int) : Bool := decide (a ≤ n) && decide (n ≤ b)
theorem inR_yes {n a b : Int} (h1 : a ≤ n) (h2 : n ≤ b) : inR n a b = true := by simp [inR, h1, h2]
theorem inR_lo {n a b : Int} (h : n < a) : inR n a b = false := by unfold inR; simp; omega
theorem inR_hi {n a b : Int} (h : b < n) : inR n a b = false := by unfold inR; simp; omega
theorem inR_iff {n a b : Int} : inR n a b = true ↔ a ≤ n ∧ n ≤ b := by simp [inR]

theorem impl_InRange (n a b : Int) (w : World) : Calls Try.prog 70 #[I n, I a, I b] w fun e w' => e = .returned (.bool (inR n a b)) ∧ w = w' := by
  by_cases h1 : a ≤ n
  · by_cases h2 : n ≤ b
    · rw [inR_yes h1 h2]
      go_enter Try.func70, Try.ntmps70
      go_wp2
      go_ret
      exact ⟨rfl, rfl⟩
    · rw [inR_hi (by omega)]
      have h3 : b < n := by omega
      go_enter Try.func70, Try.ntmps70
      go_wp2
      go_ret
      exact ⟨rfl, rfl⟩
  · rw [inR_lo (by omega)]
    have h3 : n < a := by omega
    go_enter Try.func70, Try.ntmps70
    go_wp2
    go_ret
    exact ⟨rfl, rfl⟩
theorem spec_l1In (n a b : Int) (w : World) : Calls Try.prog 64 #[I n, I a, I b] w fun e w' => e = .returned (.bool (inR n a b)) ∧ w = w' := by
  by_cases h1 : a ≤ n
  · by_cases h2 : n ≤ b
    · rw [inR_yes h1 h2]
      go_enter Try.func64, Try.ntmps64
      go_wp2
      go_ret
      exact ⟨rfl, rfl⟩
    · rw [inR_hi (by omega)]
      have h3 : b < n := by omega
      go_enter Try.func64, Try.ntmps64
      go_wp2
      go_ret
      exact ⟨rfl, rfl⟩
  · rw [inR_lo (by omega)]
    have h3 : n < a := by omega
    go_enter Try.func64, Try.ntmps64
    go_wp2
    go_ret
    exact ⟨rfl, rfl⟩
theorem impl_isResidue (n : Int) (w : World) : Calls Try.prog 139 #[I n] w fun e w' => e = .returned (.bool (inR n 0 2147483646)) ∧ w = w' := by
  go_enter Try.func139, Try.ntmps139
  go_wp2_with (fail)
  refine (impl_InRange _ _ _ _).mono ?_
  rintro e w1 ⟨rfl, rfl⟩
  go_wp2_with (fail)
  go_ret
  exact ⟨rfl, rfl⟩
theorem spec_l3Ok (n : Int) (w : World) : Calls Try.prog 128 #[I n] w fun e w' => e = .returned (.bool (inR n 0 2147483646)) ∧ w = w' := by
  go_enter Try.func128, Try.ntmps128
  go_wp2_with (fail)
  refine (spec_l1In _ _ _ _).mono ?_
  rintro e w1 ⟨rfl, rfl⟩
  go_wp2_with (fail)
  go_ret
  exact ⟨rfl, rfl⟩

/-- The remainder of the digest's prime. -/
def modP (x : Int) : Int := x.tmod 2147483647 % 2147483647
theorem modP_bd (x : Int) : 0 ≤ modP x ∧ modP x < 2147483647 := by unfold modP; omega

def digStep (d x : Int) : Int := (d * 1000003 + modP x + 11) % 2147483647
def digest (l : List Int) : Int := l.foldl digStep 7
theorem digest_bd (l : List Int) : 0 ≤ digest l ∧ digest l < 2147483647 := by
  unfold digest
  generalize hq : (7 : Int) = q
  have h7 : 0 ≤ q ∧ q < 2147483647 := by omega
  clear hq
  induction l generalizing q with
  | nil => exact h7
  | cons a t ih => exact ih _ (by unfold digStep; omega)
theorem digest_snoc (l : List Int) (x : Int) : digest (l ++ [x]) = digStep (digest l) x := by unfold digest; rw [List.foldl_append]; rfl

theorem impl_ModP (x : Int) (w : World) : Calls Try.prog 199 #[I x, I 2147483647] w fun e w' => e = .returned (I (modP x)) ∧ w = w' := by
  have h1 : -2147483647 < x.tmod 2147483647 := Int.lt_tmod_of_pos x (by omega)
  have h2 : x.tmod 2147483647 < 2147483647 := Int.tmod_lt_of_pos x (by omega)
  have h3 := hid (inR_yes (n := 2147483647) (a := 1) (b := 1000000000000) (by omega) (by omega))
  obtain ⟨y, Hy⟩ : ∃ y, Hid (y = modP x) := ⟨_, rfl⟩
  rw [← Hy.out]
  go_enter Try.func199, Try.ntmps199
  go_wp2_with (fail)
  refine (impl_InRange _ _ _ _).mono ?_
  rintro e w1 ⟨rfl, rfl⟩
  rw [h3.out]
  go_wp2_with (fail)
  go_ret
  rw [Hy.out]
  exact ⟨ret_int (by unfold modP; omega), rfl⟩
theorem spec_ModP (x : Int) (w : World) : Calls Try.prog 198 #[I x, I 2147483647] w fun e w' => e = .returned (I (modP x)) ∧ w = w' := by
  have h1 : -2147483647 < x.tmod 2147483647 := Int.lt_tmod_of_pos x (by omega)
  have h2 : x.tmod 2147483647 < 2147483647 := Int.tmod_lt_of_pos x (by omega)
  have h3 := hid (inR_yes (n := 2147483647) (a := 1) (b := 1000000000000) (by omega) (by omega))
  obtain ⟨y, Hy⟩ : ∃ y, Hid (y = modP x) := ⟨_, rfl⟩
  rw [← Hy.out]
  go_enter Try.func198, Try.ntmps198
  go_wp2_with (fail)
  refine (spec_l1In _ _ _ _).mono ?_
  rintro e w1 ⟨rfl, rfl⟩
  rw [h3.out]
  go_wp2_with (fail)
  go_ret
  rw [Hy.out]
  exact ⟨ret_int (by unfold modP; omega), rfl⟩

theorem impl_Digest (l : List Int) (v : Value) (w : World) (h : SlR intT w v l) (hn : l.length ≤ 16777216) : Calls Try.prog 188 #[v] w fun e w' => e = .returned (I (digest l)) ∧ w = w' := by
  obtain ⟨A, c, rfl, _⟩ := h.form
  obtain ⟨n, H⟩ : ∃ n, Hid (n = l.length) := ⟨_, rfl⟩
  rw [← H.out] at h hn ⊢
  go_enter Try.func188, Try.ntmps188
  go_wp2
  go_loop [3, 8] (fun t i => ∃ k : Nat, k ≤ n ∧ i = I k ∧ t = I (digest (l.take k))) (fun _ i => n - (intOf i).toNat)
  case atStart => exact ⟨0, by omega, rfl, rfl⟩
  case round =>
    obtain ⟨k, hk, rfl, rfl⟩ := hrel
    by_cases hlt : k < n
    · obtain ⟨g, o, q, x, e, hg, hxk, c0⟩ := int_at h (by rw [← H.out]; exact hlt)
      rw [← H.out] at e
      cases e
      have hd := digest_bd (l.take k)
      have hm := modP_bd x
      have HS : Hid (digest (l.take (k + 1)) = digStep (digest (l.take k)) x) := by rw [take_succ hxk.out, digest_snoc]; exact rfl
      obtain ⟨d, Hd⟩ : ∃ d, Hid (d = digest (l.take k)) := ⟨_, rfl⟩
      rw [← Hd.out] at hd ⊢
      obtain ⟨y, Hy⟩ : ∃ y, Hid (y = modP x) := ⟨_, rfl⟩
      rw [← Hy.out] at hm
      go_wp2_with (fail)
      refine (impl_ModP _ _).mono ?_
      rintro e w1 ⟨rfl, rfl⟩
      rw [← Hy.out]
      go_wp2_with (fail)
      go_round
      case rel => exact ⟨k + 1, by omega, by go_num, by rw [HS.out]; unfold digStep; rw [← Hd.out, ← Hy.out]⟩
      case measure => simp [intOf]; omega
    · go_wp2
      go_ret
      have : k = n := by omega
      subst this
      rw [H.out, List.take_length]
      exact ⟨rfl, rfl⟩
theorem spec_Digest (l : List Int) (v : Value) (w : World) (h : SlR intT w v l) (hn : l.length ≤ 16777216) : Calls Try.prog 186 #[v] w fun e w' => e = .returned (I (digest l)) ∧ w = w' := by
  obtain ⟨A, c, rfl, _⟩ := h.form
  obtain ⟨n, H⟩ : ∃ n, Hid (n = l.length) := ⟨_, rfl⟩
  rw [← H.out] at h hn ⊢
  go_enter Try.func186, Try.ntmps186
  go_wp2
  go_loop [3, 4] (fun t i => ∃ k : Nat, k ≤ n ∧ i = I k ∧ t = I (digest (l.take k))) (fun _ i => n - (intOf i).toNat)
  case atStart => exact ⟨0, by omega, rfl, rfl⟩
  case round =>
    obtain ⟨k, hk, rfl, rfl⟩ := hrel
    by_cases hlt : k < n
    · obtain ⟨g, o, q, x, e, hg, hxk, c0⟩ := int_at h (by rw [← H.out]; exact hlt)
      rw [← H.out] at e
      cases e
      have hd := digest_bd (l.take k)
      have hm := modP_bd x
      have HS : Hid (digest (l.take (k + 1)) = digStep (digest (l.take k)) x) := by rw [take_succ hxk.out, digest_snoc]; exact rfl
      obtain ⟨d, Hd⟩ : ∃ d, Hid (d = digest (l.take k)) := ⟨_, rfl⟩
      rw [← Hd.out] at hd ⊢
      obtain ⟨y, Hy⟩ : ∃ y, Hid (y = modP x) := ⟨_, rfl⟩
      rw [← Hy.out] at hm
      go_wp2_with (fail)
      refine (spec_ModP _ _).mono ?_
      rintro e w1 ⟨rfl, rfl⟩
      rw [← Hy.out]
      go_wp2_with (fail)
      go_round
      case rel => exact ⟨k + 1, by omega, by go_num, by rw [HS.out]; unfold digStep; rw [← Hd.out, ← Hy.out]⟩
      case measure => simp [intOf]; omega
    · go_wp2
      go_ret
      have : k = n := by omega
      subst this
      rw [H.out, List.take_length]
      exact ⟨rfl, rfl⟩

end Go.Proofs.Ytfgobdejlfojiaa
