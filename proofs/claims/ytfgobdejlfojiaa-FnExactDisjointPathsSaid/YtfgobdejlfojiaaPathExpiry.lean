/- impl.leastExpiry, impl.PathExpiry, spec.PathExpiry: the least expiry of the hops. -/
import Derived.Test.YtfgobdejlfojiaaHopCount
import Derived.Test.YtfgobdejlfojiaaLeast
namespace Go.Proofs.Ytfgobdejlfojiaa
open Go.RowKit
set_option linter.unusedVariables false

theorem impl_leastExpiry (hs : List Hop) (v : Value) (w : World) (h : SlR hopT w v hs) (hn : hs.length ≤ 1048576) :
    Calls Try.prog 83 #[v] w fun e w' => e = .returned (I (leastE hs)) ∧ Below w.heap.size w w' := by
  obtain ⟨A, c, rfl, _⟩ := h.form
  obtain ⟨n, H⟩ : ∃ n, Hid (n = hs.length) := ⟨_, rfl⟩
  rw [← H.out] at h hn ⊢
  go_enter Try.func83, Try.ntmps83
  go_wp2
  go_loopw [3, 8] (fun t i wr => ∃ k : Nat, k ≤ n ∧ i = I k ∧ t = I (leastE (hs.take k)) ∧ Below w.heap.size w wr) (fun _ i _ => n - (intOf i).toNat)
  case atStart => exact ⟨0, by omega, rfl, rfl, Below.refl _ _⟩
  case round =>
    rename_i wr
    obtain ⟨k, hk, rfl, rfl, hb⟩ := hrel
    by_cases hlt : k < n
    · obtain ⟨g, o, q, x, e, hg, hxk, c0, c1, c2, c3, c4⟩ := hop_at (h.below hb) (by rw [← H.out]; exact hlt)
      rw [← H.out] at e
      cases e
      by_cases hk0 : k = 0
      · have HS : Hid (leastE (hs.take (k + 1)) = x.exp) := by rw [take_succ hxk.out, hk0]; exact rfl
        obtain ⟨m, Hm⟩ : ∃ m, Hid (m = leastE (hs.take k)) := ⟨_, rfl⟩
        have hkb : ((k : Int) == 0) = true := by simp [hk0]
        clear hk0
        rw [← Hm.out]
        go_wp2
        go_roundw
        case rel => exact ⟨k + 1, by omega, by go_num, by rw [HS.out], ext_alloc hb _⟩
        case measure => simp [intOf]; omega
      · have hne : hs.take k ≠ [] := by
          have := H.out
          intro h0
          have h1 : (hs.take k).length = 0 := by rw [h0]; rfl
          rw [List.length_take] at h1
          omega
        have HS : Hid (leastE (hs.take (k + 1)) = if x.exp < leastE (hs.take k) then x.exp else leastE (hs.take k)) := by rw [take_succ hxk.out]; exact leastE_snoc x hne
        obtain ⟨m, Hm⟩ : ∃ m, Hid (m = leastE (hs.take k)) := ⟨_, rfl⟩
        rw [← Hm.out] at HS ⊢
        have hkb : ((k : Int) == 0) = false := by simp; omega
        by_cases hc : x.exp < m
        · rw [if_pos hc] at HS
          go_wp2
          go_roundw
          case rel => exact ⟨k + 1, by omega, by go_num, by rw [HS.out], ext_alloc hb _⟩
          case measure => simp [intOf]; omega
        · rw [if_neg hc] at HS
          go_wp2
          go_roundw
          case rel => exact ⟨k + 1, by omega, by go_num, by rw [HS.out], ext_alloc hb _⟩
          case measure => simp [intOf]; omega
    · go_wp2
      go_ret
      have : k = n := by omega
      subst this
      rw [H.out, List.take_length]
      exact ⟨rfl, hb⟩

theorem impl_PathExpiry (p : Path) (cs : List Value) (w : World) (h : pathT.R w cs p) (hz : sz_path p ≤ 1048576) (hl : lenOk_path p) (hg : rng_path p) :
    Calls Try.prog 166 #[.agg cs.toArray] w fun r w' => r = .returned (I (leastE (hopsOf p))) ∧ Below w.heap.size w w' := by
  obtain ⟨A, c, rfl, _⟩ := path_form h
  have hb0 : Below w.heap.size w (w.alloc (.cells #[.slice A p.length c] 39)) := ext_alloc1 _ _
  have hp := hopsOf_len p
  have HL : (hopsOf p).length ≤ 1048576 := by omega
  clear hl hg hp
  go_enter Try.func166, Try.ntmps166
  go_wp2_with (fail)
  refine (impl_allHops p _ _ (pathT.kp h hb0) hz).mono ?_
  rintro e w1 ⟨v', fp, rfl, hO, hb1⟩
  go_wp2_with (fail)
  refine (impl_leastExpiry _ _ _ hO.read HL).mono ?_
  rintro e w2 ⟨rfl, hb2⟩
  go_wp2_with (fail)
  go_ret
  exact ⟨rfl, ext_trans (ext_trans hb0 hb1) hb2⟩

theorem spec_PathExpiry (p : Path) (cs : List Value) (w : World) (h : pathT.R w cs p) (hz : sz_path p ≤ 1048576) (hl : lenOk_path p) (hg : rng_path p) :
    Calls Try.prog 163 #[.agg cs.toArray] w fun r w' => r = .returned (I (leastE (hopsOf p))) ∧ Below w.heap.size w w' := by
  obtain ⟨A, c, rfl, ⟨h, _⟩⟩ := path_form h
  obtain ⟨n, H⟩ : ∃ n, Hid (n = p.length) := ⟨_, rfl⟩
  have hp := hopsOf_len p
  have hn2 : n ≤ 1048576 := by rw [H.out]; omega
  have HL : (hopsOf p).length ≤ 1048576 := by omega
  rw [← H.out] at h ⊢
  clear hp hz hl hg
  have hb0 : Below w.heap.size w (w.alloc (.cells #[.slice A n c] 39)) := ext_alloc1 _ _
  go_enter Try.func163, Try.ntmps163
  go_wp2
  go_loop [3, 4, 5] (fun t s i => ∃ k : Nat, k ≤ n ∧ i = I k ∧ t = I (leastE (hopsOf (p.take k))) ∧ s = .bool (!(hopsOf (p.take k)).isEmpty)) (fun _ _ i => n - (intOf i).toNat)
  case atStart => exact ⟨0, by omega, rfl, rfl, rfl⟩
  case round =>
    obtain ⟨k, hk, rfl, rfl, rfl⟩ := hrel
    by_cases hlt : k < n
    · obtain ⟨g, o, q, x, B, d, e, hg, hxk, hin, hd, c0, c1, c2, c3⟩ := part_at (h.below hb0) (by rw [← H.out]; exact hlt)
      rw [← H.out] at e
      cases e
      have hsn : hopsOf (p.take (k + 1)) = hopsOf (p.take k) ++ x.hops := by rw [take_succ hxk.out, hopsOf_snoc]
      have hle := hopsOf_take_le p (k + 1)
      rw [hsn, List.length_append] at hle
      have HS := hid hsn
      clear hsn
      obtain ⟨l0, Hl0⟩ : ∃ l0, Hid (l0 = hopsOf (p.take k)) := ⟨_, rfl⟩
      rw [← Hl0.out] at HS hle ⊢
      obtain ⟨m, Hm⟩ : ∃ m, Hid (m = x.hops.length) := ⟨_, rfl⟩
      rw [← Hm.out] at hin hd hle c3
      go_wp2
      go_loop [3, 4, 6] (fun t s i => ∃ j : Nat, j ≤ m ∧ i = I j ∧ t = I (leastE (l0 ++ x.hops.take j)) ∧ s = .bool (!(l0 ++ x.hops.take j).isEmpty)) (fun _ _ i => m - (intOf i).toNat)
      case atStart => exact ⟨0, by omega, rfl, by simp, by simp⟩
      case round =>
        obtain ⟨j, hj, rfl, rfl, rfl⟩ := hrel
        by_cases hjl : j < m
        · obtain ⟨g', o', q', y, e', hg', hyj, b0, b1, b2, b3, b4⟩ := hop_at hin (by rw [← Hm.out]; exact hjl)
          rw [← Hm.out] at e'
          cases e'
          have hs2 : l0 ++ x.hops.take (j + 1) = (l0 ++ x.hops.take j) ++ [y] := by rw [take_succ hyj.out, List.append_assoc]
          by_cases hne : l0 ++ x.hops.take j = []
          · have HQ : Hid (leastE (l0 ++ x.hops.take (j + 1)) = y.exp ∧ (l0 ++ x.hops.take (j + 1)).isEmpty = false) := by rw [hs2, hne]; exact ⟨rfl, rfl⟩
            have he : (l0 ++ x.hops.take j).isEmpty = true := by rw [hne]; rfl
            rw [he]
            clear hs2 he hne
            obtain ⟨t0, Ht⟩ : ∃ t0, Hid (t0 = leastE (l0 ++ x.hops.take j)) := ⟨_, rfl⟩
            rw [← Ht.out]
            go_wp2
            go_round
            case rel => exact ⟨j + 1, by omega, by go_num, by rw [HQ.out.1], by rw [HQ.out.2]; rfl⟩
            case measure => simp [intOf]; omega
          · have HQ : Hid (leastE (l0 ++ x.hops.take (j + 1)) = (if y.exp < leastE (l0 ++ x.hops.take j) then y.exp else leastE (l0 ++ x.hops.take j)) ∧ (l0 ++ x.hops.take (j + 1)).isEmpty = false) := by
              rw [hs2]; exact ⟨leastE_snoc y hne, by simp⟩
            have he : (l0 ++ x.hops.take j).isEmpty = false := by simpa using hne
            rw [he]
            clear hs2 he hne
            obtain ⟨t0, Ht⟩ : ∃ t0, Hid (t0 = leastE (l0 ++ x.hops.take j)) := ⟨_, rfl⟩
            rw [← Ht.out] at HQ ⊢
            by_cases hc : y.exp < t0
            · rw [if_pos hc] at HQ
              go_wp2
              go_round
              case rel => exact ⟨j + 1, by omega, by go_num, by rw [HQ.out.1], by rw [HQ.out.2]; rfl⟩
              case measure => simp [intOf]; omega
            · rw [if_neg hc] at HQ
              go_wp2
              go_round
              case rel => exact ⟨j + 1, by omega, by go_num, by rw [HQ.out.1], by rw [HQ.out.2]⟩
              case measure => simp [intOf]; omega
        · have hjm : j = m := by omega
          subst hjm
          have hfin : Hid (l0 ++ x.hops.take j = hopsOf (p.take (k + 1))) := by
            show _ = _
            rw [HS.out, Hm.out, List.take_length]
          rw [hfin.out]
          go_wp2
          go_round
          case rel => exact ⟨k + 1, by omega, by go_num, rfl, rfl⟩
          case measure => simp [intOf]; omega
    · go_wp2
      go_ret
      have : k = n := by omega
      subst this
      rw [H.out, List.take_length]
      exact ⟨rfl, by rw [← H.out]; exact hb0⟩

end Go.Proofs.Ytfgobdejlfojiaa
