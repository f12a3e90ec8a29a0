/- impl.allHops, impl.HopCount and spec.HopCount: the hops of all parts, one behind the other, and how many there are. -/
import Derived.Test.YtfgobdejlfojiaaFamPath
namespace Go.Proofs.Ytfgobdejlfojiaa
open Go.RowKit
set_option linter.unusedVariables false

def hopsOf (p : Path) : List Hop := p.flatMap (·.hops)

theorem hopsOf_len (p : Path) : (hopsOf p).length + p.length = sz_path p := by
  show (p.flatMap (·.hops)).length + p.length = p.length + (p.map fun d => d.hops.length).sum
  rw [List.length_flatMap]
  omega
theorem hopsOf_snoc (p : Path) (x : Part) : hopsOf (p ++ [x]) = hopsOf p ++ x.hops := by simp [hopsOf]
theorem hopsOf_take_le (p : Path) (k : Nat) : (hopsOf (p.take k)).length ≤ (hopsOf p).length := by
  have : hopsOf p = hopsOf (p.take k) ++ hopsOf (p.drop k) := by unfold hopsOf; rw [← List.flatMap_append, List.take_append_drop]
  rw [this, List.length_append]; omega

theorem impl_allHops (p : Path) (cs : List Value) (w : World) (h : pathT.R w cs p) (hz : sz_path p ≤ 1048576) :
    Calls Try.prog 187 #[.agg cs.toArray] w fun r w' => ∃ v' fp, r = .returned v' ∧ SlO hopT 93 w.heap.size w' v' (hopsOf p) fp ∧ Below w.heap.size w w' := by
  obtain ⟨A, c, rfl, ⟨h, _⟩⟩ := path_form h
  obtain ⟨n, H⟩ : ∃ n, Hid (n = p.length) := ⟨_, rfl⟩
  have hp := hopsOf_len p
  have hn2 : n ≤ 1048576 := by rw [H.out]; omega
  have HL : (hopsOf p).length ≤ 1048576 := by omega
  rw [← H.out] at h ⊢
  clear hp hz
  go_enter Try.func187, Try.ntmps187
  go_wp2
  go_loopw [3, 9] (fun v i wr => ∃ k : Nat, k ≤ n ∧ i = I k ∧ Below w.heap.size w wr ∧ ∃ fp, SlO hopT 93 w.heap.size wr v (hopsOf (p.take k)) fp) (fun _ i _ => n - (intOf i).toNat)
  case atStart => exact ⟨0, by omega, rfl, ext_alloc1 _ _, [], SlO.nil⟩
  case round =>
    rename_i wr
    obtain ⟨k, hk, rfl, hb, fp, hO⟩ := hrel
    by_cases hlt : k < n
    · obtain ⟨g, o, q, x, B, d, e, hg, hxk, hin, hd, c0, c1, c2, c3⟩ := part_at (h.below hb) (by rw [← H.out]; exact hlt)
      rw [← H.out] at e
      cases e
      have hsn : hopsOf (p.take (k + 1)) = hopsOf (p.take k) ++ x.hops := by rw [take_succ hxk.out, hopsOf_snoc]
      have hle := hopsOf_take_le p (k + 1)
      rw [hsn, List.length_append] at hle
      have HS := hid hsn
      clear hsn
      have hw := hb.size
      go_wp2_with ((at_builtin; refine wpList_cat hop_flat (.tmp 13) (.tmp 15) et_hop (hO.alloc _) (hin.below (ext_alloc1 _ _)) ?_ ?_ ?_ rfl rfl rfl rfl ?_))
      · omega
      · simp only [maxLen]; omega
      · simp; omega
      · intro v' w1 fp' hO' hfp hkp
        have hb1 : Below w.heap.size w w1 := (hb.alloc hw _).trans (hkp.below (fun b hb => (hO.size_ok b hb).1) (by simp; omega))
        go_wp2
        go_roundw
        case rel => exact ⟨k + 1, by omega, by go_num, hb1, fp', by rw [HS.out]; exact hO'⟩
        case measure => simp [intOf]; omega
    · go_wp2
      go_ret
      have : k = n := by omega
      subst this
      rw [H.out, List.take_length] at hO
      exact ⟨_, fp, rfl, hO, hb⟩


end Go.Proofs.Ytfgobdejlfojiaa
