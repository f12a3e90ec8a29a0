/- IsReversed, PartIngress, PartEgress, of the program and of the reference. -/
import Derived.Test.YtfgobdejlfojiaaNum
import Derived.Test.YtfgobdejlfojiaaFamPath
namespace Go.Proofs.Ytfgobdejlfojiaa
open Go.RowKit
set_option linter.unusedVariables false

def isRev (k : Int) : Bool := k == 1 || k == 3
/-- The interface through which a packet enters at hop i, and through which it leaves. -/
def partIn (p : Part) (i : Nat) : Int := match p.hops[i]? with
  | none => 0
  | some h => if isRev p.kind then h.eg else h.ing
def partOut (p : Part) (i : Nat) : Int := match p.hops[i]? with
  | none => 0
  | some h => if isRev p.kind then h.ing else h.eg

theorem impl_IsReversed (k : Int) (w : World) : Calls Try.prog 177 #[I k] w fun e w' => e = .returned (.bool (isRev k)) ∧ w = w' := by
  obtain ⟨q, Hq⟩ : ∃ q, Hid (q = isRev k) := ⟨_, rfl⟩
  rw [← Hq.out]
  cases h1 : (k == 1) <;> cases h2 : (k == 3)
  all_goals
    go_enter Try.func177, Try.ntmps177
    go_wp2
    go_ret
    exact ⟨by rw [Hq.out]; simp [isRev, h1, h2], rfl⟩
theorem spec_IsReversed (k : Int) (w : World) : Calls Try.prog 173 #[I k] w fun e w' => e = .returned (.bool (isRev k)) ∧ w = w' := by
  obtain ⟨q, Hq⟩ : ∃ q, Hid (q = isRev k) := ⟨_, rfl⟩
  rw [← Hq.out]
  cases h1 : (k == 1) <;> cases h2 : (k == 3)
  all_goals
    go_enter Try.func173, Try.ntmps173
    go_wp2
    go_ret
    exact ⟨by rw [Hq.out]; simp [isRev, h1, h2], rfl⟩

theorem impl_PartIngress (p : Part) (cs : List Value) (i : Int) (w : World) (h : partT.R w cs p) (hz : p.hops.length ≤ 1048576) (h0 : 0 ≤ i) : Calls Try.prog 142 #[.agg cs.toArray, I i] w fun e w' => e = .returned (I (partIn p i.toNat)) ∧ Below w.heap.size w w' := by
  obtain ⟨A, c, rfl, ⟨h, _⟩⟩ := part_form h
  obtain ⟨y, Hy⟩ : ∃ y, Hid (y = partIn p i.toNat) := ⟨_, rfl⟩
  rw [← Hy.out]
  obtain ⟨k, rfl⟩ := Int.eq_ofNat_of_zero_le h0
  rw [Int.toNat_natCast] at Hy
  obtain ⟨n, H⟩ : ∃ n, Hid (n = p.hops.length) := ⟨_, rfl⟩
  have hn : n ≤ 1048576 := by rw [H.out]; exact hz
  clear hz h0
  rw [← H.out] at h ⊢
  by_cases hlt : k < n
  · obtain ⟨g, o, q, x, e, hg, hxk, c0, c1, c2, c3, c4⟩ := hop_at h (by rw [← H.out]; exact hlt)
    rw [← H.out] at e
    cases e
    have HY : Hid (y = if isRev p.kind then x.eg else x.ing) := by show y = _; rw [Hy.out]; unfold partIn; rw [hxk.out]
    have hin : Hid (inR (k : Int) 0 ((n : Int) - 1) = true) := inR_yes (by omega) (by omega)
    cases hr : isRev p.kind
    all_goals
      rw [hr] at HY
      go_enter Try.func142, Try.ntmps142
      go_wp2_with (first | (go_at_call 70; refine (impl_InRange _ _ _ _).mono ?_; rintro e w1 ⟨rfl, rfl⟩; rw [hin.out]) | (go_at_call 177; refine (impl_IsReversed _ _).mono ?_; rintro e w1 ⟨rfl, rfl⟩))
      go_ret
      exact ⟨by rw [HY.out]; rfl, ext_alloc1 _ _⟩
  · have HY : Hid (y = 0) := by show y = _; rw [Hy.out]; unfold partIn; rw [List.getElem?_eq_none (by rw [← H.out]; omega)]
    have hin : Hid (inR (k : Int) 0 ((n : Int) - 1) = false) := inR_hi (by omega)
    go_enter Try.func142, Try.ntmps142
    go_wp2_with (first | (go_at_call 70; refine (impl_InRange _ _ _ _).mono ?_; rintro e w1 ⟨rfl, rfl⟩; rw [hin.out]))
    go_ret
    exact ⟨by rw [HY.out]; rfl, ext_alloc1 _ _⟩
theorem impl_PartEgress (p : Part) (cs : List Value) (i : Int) (w : World) (h : partT.R w cs p) (hz : p.hops.length ≤ 1048576) (h0 : 0 ≤ i) : Calls Try.prog 140 #[.agg cs.toArray, I i] w fun e w' => e = .returned (I (partOut p i.toNat)) ∧ Below w.heap.size w w' := by
  obtain ⟨A, c, rfl, ⟨h, _⟩⟩ := part_form h
  obtain ⟨y, Hy⟩ : ∃ y, Hid (y = partOut p i.toNat) := ⟨_, rfl⟩
  rw [← Hy.out]
  obtain ⟨k, rfl⟩ := Int.eq_ofNat_of_zero_le h0
  rw [Int.toNat_natCast] at Hy
  obtain ⟨n, H⟩ : ∃ n, Hid (n = p.hops.length) := ⟨_, rfl⟩
  have hn : n ≤ 1048576 := by rw [H.out]; exact hz
  clear hz h0
  rw [← H.out] at h ⊢
  by_cases hlt : k < n
  · obtain ⟨g, o, q, x, e, hg, hxk, c0, c1, c2, c3, c4⟩ := hop_at h (by rw [← H.out]; exact hlt)
    rw [← H.out] at e
    cases e
    have HY : Hid (y = if isRev p.kind then x.ing else x.eg) := by show y = _; rw [Hy.out]; unfold partOut; rw [hxk.out]
    have hin : Hid (inR (k : Int) 0 ((n : Int) - 1) = true) := inR_yes (by omega) (by omega)
    cases hr : isRev p.kind
    all_goals
      rw [hr] at HY
      go_enter Try.func140, Try.ntmps140
      go_wp2_with (first | (go_at_call 70; refine (impl_InRange _ _ _ _).mono ?_; rintro e w1 ⟨rfl, rfl⟩; rw [hin.out]) | (go_at_call 177; refine (impl_IsReversed _ _).mono ?_; rintro e w1 ⟨rfl, rfl⟩))
      go_ret
      exact ⟨by rw [HY.out]; rfl, ext_alloc1 _ _⟩
  · have HY : Hid (y = 0) := by show y = _; rw [Hy.out]; unfold partOut; rw [List.getElem?_eq_none (by rw [← H.out]; omega)]
    have hin : Hid (inR (k : Int) 0 ((n : Int) - 1) = false) := inR_hi (by omega)
    go_enter Try.func140, Try.ntmps140
    go_wp2_with (first | (go_at_call 70; refine (impl_InRange _ _ _ _).mono ?_; rintro e w1 ⟨rfl, rfl⟩; rw [hin.out]))
    go_ret
    exact ⟨by rw [HY.out]; rfl, ext_alloc1 _ _⟩
theorem spec_PartIngress (p : Part) (cs : List Value) (i : Int) (w : World) (h : partT.R w cs p) (hz : p.hops.length ≤ 1048576) (h0 : 0 ≤ i) : Calls Try.prog 134 #[.agg cs.toArray, I i] w fun e w' => e = .returned (I (partIn p i.toNat)) ∧ Below w.heap.size w w' := by
  obtain ⟨A, c, rfl, ⟨h, _⟩⟩ := part_form h
  obtain ⟨y, Hy⟩ : ∃ y, Hid (y = partIn p i.toNat) := ⟨_, rfl⟩
  rw [← Hy.out]
  obtain ⟨k, rfl⟩ := Int.eq_ofNat_of_zero_le h0
  rw [Int.toNat_natCast] at Hy
  obtain ⟨n, H⟩ : ∃ n, Hid (n = p.hops.length) := ⟨_, rfl⟩
  have hn : n ≤ 1048576 := by rw [H.out]; exact hz
  clear hz h0
  rw [← H.out] at h ⊢
  by_cases hlt : k < n
  · obtain ⟨g, o, q, x, e, hg, hxk, c0, c1, c2, c3, c4⟩ := hop_at h (by rw [← H.out]; exact hlt)
    rw [← H.out] at e
    cases e
    have HY : Hid (y = if isRev p.kind then x.eg else x.ing) := by show y = _; rw [Hy.out]; unfold partIn; rw [hxk.out]
    have hin : Hid (inR (k : Int) 0 ((n : Int) - 1) = true) := inR_yes (by omega) (by omega)
    cases hr : isRev p.kind
    all_goals
      rw [hr] at HY
      go_enter Try.func134, Try.ntmps134
      go_wp2_with (first | (go_at_call 64; refine (spec_l1In _ _ _ _).mono ?_; rintro e w1 ⟨rfl, rfl⟩; rw [hin.out]) | (go_at_call 173; refine (spec_IsReversed _ _).mono ?_; rintro e w1 ⟨rfl, rfl⟩))
      go_ret
      exact ⟨by rw [HY.out]; rfl, ext_alloc1 _ _⟩
  · have HY : Hid (y = 0) := by show y = _; rw [Hy.out]; unfold partIn; rw [List.getElem?_eq_none (by rw [← H.out]; omega)]
    have hin : Hid (inR (k : Int) 0 ((n : Int) - 1) = false) := inR_hi (by omega)
    go_enter Try.func134, Try.ntmps134
    go_wp2_with (first | (go_at_call 64; refine (spec_l1In _ _ _ _).mono ?_; rintro e w1 ⟨rfl, rfl⟩; rw [hin.out]))
    go_ret
    exact ⟨by rw [HY.out]; rfl, ext_alloc1 _ _⟩
theorem spec_PartEgress (p : Part) (cs : List Value) (i : Int) (w : World) (h : partT.R w cs p) (hz : p.hops.length ≤ 1048576) (h0 : 0 ≤ i) : Calls Try.prog 133 #[.agg cs.toArray, I i] w fun e w' => e = .returned (I (partOut p i.toNat)) ∧ Below w.heap.size w w' := by
  obtain ⟨A, c, rfl, ⟨h, _⟩⟩ := part_form h
  obtain ⟨y, Hy⟩ : ∃ y, Hid (y = partOut p i.toNat) := ⟨_, rfl⟩
  rw [← Hy.out]
  obtain ⟨k, rfl⟩ := Int.eq_ofNat_of_zero_le h0
  rw [Int.toNat_natCast] at Hy
  obtain ⟨n, H⟩ : ∃ n, Hid (n = p.hops.length) := ⟨_, rfl⟩
  have hn : n ≤ 1048576 := by rw [H.out]; exact hz
  clear hz h0
  rw [← H.out] at h ⊢
  by_cases hlt : k < n
  · obtain ⟨g, o, q, x, e, hg, hxk, c0, c1, c2, c3, c4⟩ := hop_at h (by rw [← H.out]; exact hlt)
    rw [← H.out] at e
    cases e
    have HY : Hid (y = if isRev p.kind then x.ing else x.eg) := by show y = _; rw [Hy.out]; unfold partOut; rw [hxk.out]
    have hin : Hid (inR (k : Int) 0 ((n : Int) - 1) = true) := inR_yes (by omega) (by omega)
    cases hr : isRev p.kind
    all_goals
      rw [hr] at HY
      go_enter Try.func133, Try.ntmps133
      go_wp2_with (first | (go_at_call 64; refine (spec_l1In _ _ _ _).mono ?_; rintro e w1 ⟨rfl, rfl⟩; rw [hin.out]) | (go_at_call 173; refine (spec_IsReversed _ _).mono ?_; rintro e w1 ⟨rfl, rfl⟩))
      go_ret
      exact ⟨by rw [HY.out]; rfl, ext_alloc1 _ _⟩
  · have HY : Hid (y = 0) := by show y = _; rw [Hy.out]; unfold partOut; rw [List.getElem?_eq_none (by rw [← H.out]; omega)]
    have hin : Hid (inR (k : Int) 0 ((n : Int) - 1) = false) := inR_hi (by omega)
    go_enter Try.func133, Try.ntmps133
    go_wp2_with (first | (go_at_call 64; refine (spec_l1In _ _ _ _).mono ?_; rintro e w1 ⟨rfl, rfl⟩; rw [hin.out]))
    go_ret
    exact ⟨by rw [HY.out]; rfl, ext_alloc1 _ _⟩

end Go.Proofs.Ytfgobdejlfojiaa
