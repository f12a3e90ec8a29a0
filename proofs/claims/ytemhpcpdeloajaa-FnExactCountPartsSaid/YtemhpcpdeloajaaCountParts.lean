/- impl.CountParts and spec.CountParts: how many parts a list of paths has. -/
import Derived.Test.YtemhpcpdeloajaaFamPaths
namespace Go.Proofs.Ytemhpcpdeloajaa
open Go.RowKit
set_option linter.unusedVariables false

def countParts (l : List Path) : Nat := (l.map List.length).sum
theorem countParts_snoc (l : List Path) (p : Path) : countParts (l ++ [p]) = countParts l + p.length := by simp [countParts]
theorem countParts_take (l : List Path) (k : Nat) : countParts (l.take k) ≤ countParts l := by
  unfold countParts
  rw [List.map_take]
  exact sum_take_le _ _
theorem countParts_le (l : List Path) : countParts l ≤ sz_paths l := by
  unfold countParts sz_paths
  induction l with
  | nil => simp
  | cons a t ih =>
    have : a.length ≤ sz_path a := by show _ ≤ List.length a + _; omega
    simp only [List.map_cons, List.sum_cons, List.length_cons] at ih ⊢
    omega

theorem impl_CountParts (l : List Path) (v : Value) (w : World) (h : SlR pathT w v l) (hz : sz_paths l ≤ 1048576) (hl : l.length ≤ 9223372036854775807 ∧ ∀ x ∈ l, lenOk_path x) (hg : ∀ x ∈ l, rng_path x) :
    Calls Try.prog 29 #[v] w fun r w' => r = .returned (I (countParts l)) ∧ Below w.heap.size w w' := by
  obtain ⟨A, c, rfl, _⟩ := h.form
  obtain ⟨n, H⟩ : ∃ n, Hid (n = l.length) := ⟨_, rfl⟩
  have hcl : countParts l ≤ 1048576 := by have := countParts_le l; omega
  have hn : n ≤ 1048576 := by rw [H.out]; unfold sz_paths at hz; omega
  rw [← H.out] at h ⊢
  clear hl hg hz
  go_enter Try.func29, Try.ntmps29
  go_wp2
  go_loopw [3, 8] (fun t i wr => ∃ k : Nat, k ≤ n ∧ i = I k ∧ t = I (countParts (l.take k)) ∧ Below w.heap.size w wr) (fun _ i _ => n - (intOf i).toNat)
  case atStart => exact ⟨0, by omega, rfl, rfl, Below.refl _ _⟩
  case round =>
    rename_i wr
    obtain ⟨k, hk, rfl, rfl, hb⟩ := hrel
    by_cases hlt : k < n
    · obtain ⟨g, o, q, x, B, d, e, hg, hxk, hin, hd, c0⟩ := path_at (h.below hb) (by rw [← H.out]; exact hlt)
      rw [← H.out] at e
      cases e
      have hs : countParts (l.take (k + 1)) = countParts (l.take k) + x.length := by rw [take_succ hxk.out, countParts_snoc]
      have hle := countParts_take l (k + 1)
      rw [hs] at hle
      have HS := hid hs
      clear hs
      go_wp2
      go_roundw
      case rel => exact ⟨k + 1, by omega, by go_num, by rw [HS.out]; go_num, ext_alloc hb _⟩
      case measure => simp [intOf]; omega
    · go_wp2
      go_ret
      have : k = n := by omega
      subst this
      rw [H.out, List.take_length]
      exact ⟨rfl, hb⟩

theorem spec_CountParts (l : List Path) (v : Value) (w : World) (h : SlR pathT w v l) (hz : sz_paths l ≤ 1048576) (hl : l.length ≤ 9223372036854775807 ∧ ∀ x ∈ l, lenOk_path x) (hg : ∀ x ∈ l, rng_path x) :
    Calls Try.prog 27 #[v] w fun r w' => r = .returned (I (countParts l)) ∧ Below w.heap.size w w' := by
  obtain ⟨A, c, rfl, _⟩ := h.form
  obtain ⟨n, H⟩ : ∃ n, Hid (n = l.length) := ⟨_, rfl⟩
  have hcl : countParts l ≤ 1048576 := by have := countParts_le l; omega
  have hn : n ≤ 1048576 := by rw [H.out]; unfold sz_paths at hz; omega
  rw [← H.out] at h ⊢
  clear hl hg hz
  go_enter Try.func27, Try.ntmps27
  go_wp2
  go_loop [3, 4] (fun t i => ∃ k : Nat, k ≤ n ∧ i = I k ∧ t = I (countParts (l.take k))) (fun _ i => n - (intOf i).toNat)
  case atStart => exact ⟨0, by omega, rfl, rfl⟩
  case round =>
    obtain ⟨k, hk, rfl, rfl⟩ := hrel
    by_cases hlt : k < n
    · obtain ⟨g, o, q, x, B, d, e, hg, hxk, hin, hd, c0⟩ := path_at h (by rw [← H.out]; exact hlt)
      rw [← H.out] at e
      cases e
      have hs : countParts (l.take (k + 1)) = countParts (l.take k) + x.length := by rw [take_succ hxk.out, countParts_snoc]
      have hle := countParts_take l (k + 1)
      rw [hs] at hle
      have HS := hid hs
      clear hs
      go_wp2
      go_round
      case rel => exact ⟨k + 1, by omega, by go_num, by rw [HS.out]; go_num⟩
      case measure => simp [intOf]; omega
    · go_wp2
      go_ret
      have : k = n := by omega
      subst this
      rw [H.out, List.take_length]
      exact ⟨rfl, Below.refl _ _⟩

end Go.Proofs.Ytemhpcpdeloajaa
