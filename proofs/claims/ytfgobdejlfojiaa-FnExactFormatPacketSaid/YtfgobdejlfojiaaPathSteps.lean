/- PathSteps, of the program and of the reference. -/
import Derived.Test.YtfgobdejlfojiaaSteps
import Derived.Deep.RegionHeld3
namespace Go.Proofs.Ytfgobdejlfojiaa
open Go.RowKit
set_option linter.unusedVariables false

theorem step_put2 {base : Nat} {w : World} {cs : List Value} {s : Stp} {f : List Nat} (h : stepT.O base w cs s f) (v : Int) : stepT.O base w (cs.set 2 (I v)) { s with eg := v } f := by
  have e : cs = [I s.ia, I s.ing, I s.eg] := h.1
  subst e
  exact ⟨rfl, h.2⟩
theorem step_put1 {base : Nat} {w : World} {cs : List Value} {s : Stp} {f : List Nat} (h : stepT.O base w cs s f) (v : Int) : stepT.O base w (cs.set 1 (I v)) { s with ing := v } f := by
  have e : cs = [I s.ia, I s.ing, I s.eg] := h.1
  subst e
  exact ⟨rfl, h.2⟩

set_option maxRecDepth 100000 in
set_option maxHeartbeats 4000000 in
theorem impl_PathSteps (p : Path) (cs : List Value) (w : World) (h : pathT.R w cs p) (hz : sz_path p ≤ 1048576) (hl : lenOk_path p) (hg : rng_path p) :
    Calls Try.prog 125 #[.agg cs.toArray] w fun r w' => ∃ v fp, r = .returned v ∧ SlO stepT 131 w.heap.size w' v (pathSteps p) fp ∧ Below w.heap.size w w' := by
  obtain ⟨A, c, rfl, ⟨h, _⟩⟩ := path_form h
  obtain ⟨n, H⟩ : ∃ n, Hid (n = p.length) := ⟨_, rfl⟩
  have hn : n ≤ 1048576 := by rw [H.out]; have : sz_path p = List.length p + (p.map sz_part).sum := rfl; omega
  have Hz := hid hz
  clear hz hl hg
  rw [← H.out] at h ⊢
  have hb0 : Below w.heap.size w (w.alloc (.cells #[.slice A n c] 39)) := ext_alloc1 _ _
  go_enter Try.func125, Try.ntmps125
  go_wp2
  go_loopw [3, 12] (fun v i wr => ∃ k : Nat, k ≤ n ∧ i = I k ∧ Below w.heap.size w wr ∧ ∃ fp, SlO stepT 131 w.heap.size wr v (rawSteps p k) fp) (fun _ i _ => n - (intOf i).toNat)
  case atStart => exact ⟨0, by omega, rfl, hb0, [], SlO.nil⟩
  case round =>
    obtain ⟨k, hk, rfl, hb, fp, hO⟩ := hrel
    clear hb0
    obtain ⟨wo, rfl⟩ : ∃ wo : World, wo = wr := ⟨_, rfl⟩
    by_cases hlt : k < n
    · obtain ⟨g, o, q, x, B, d, e, hg, hxk, hin, hd, c0, c1, c2, c3⟩ := part_at h (by rw [← H.out]; exact hlt)
      rw [← H.out] at e
      cases e
      replace c0 := ck hb c0
      replace c1 := ck hb c1
      replace c2 := ck hb c2
      replace c3 := ck hb c3
      have hm2 : x.hops.length ≤ 1048576 := Nat.le_trans (hops_le_path (List.mem_of_getElem? hxk.out)) Hz.out
      obtain ⟨m, Hm⟩ : ∃ m, Hid (m = x.hops.length) := ⟨_, rfl⟩
      rw [← Hm.out] at hin hd hm2 c3
      have Hbd : Hid (∀ j, j ≤ m → (hopsTo k x (rawSteps p k) j).length ≤ 1048576) := fun j hj => Nat.le_trans (hopsTo_bound hxk.out (by rw [← Hm.out]; exact hj)) Hz.out
      have hsuc : Hid (rawSteps p (k + 1) = hopsTo k x (rawSteps p k) m) := by show _ = _; rw [Hm.out]; exact rawSteps_succ hxk.out
      obtain ⟨l0, Hl0⟩ : ∃ l0, Hid (l0 = rawSteps p k) := ⟨_, rfl⟩
      rw [← Hl0.out] at hO hsuc Hbd
      have hz0 : w.heap.size ≤ wo.heap.size := hb.size
      have C0 := hid c0
      have C1 := hid c1
      have C2 := hid c2
      have C3 := hid c3
      have hOa := hid (hO.alloc (.cells #[I x.kind, I x.ts, I x.beta, .slice B m d] 90))
      have hfr := hid fun hm => Nat.lt_irrefl _ (hO.size_ok wo.heap.size hm).2
      have hba := hid (ext_alloc hb (.cells #[I x.kind, I x.ts, I x.beta, .slice B m d] 90))
      go_wp2
      clear c0 c1 c2 c3 hO
      go_loopw [3, 20] (fun v i wr => ∃ j : Nat, j ≤ m ∧ i = I j ∧ Below w.heap.size w wr ∧ wo.heap.size + 1 ≤ wr.heap.size ∧ (wr.cell? ⟨wo.heap.size, 0, none⟩ = some (I x.kind) ∧ wr.cell? ⟨wo.heap.size, 1, none⟩ = some (I x.ts) ∧ wr.cell? ⟨wo.heap.size, 2, none⟩ = some (I x.beta) ∧ wr.cell? ⟨wo.heap.size, 3, none⟩ = some (.slice B m d)) ∧ ∃ fp, SlO stepT 131 w.heap.size wr v (hopsTo k x l0 j) fp ∧ wo.heap.size ∉ fp) (fun _ i _ => m - (intOf i).toNat)
      case atStart => exact ⟨0, by omega, rfl, hba.out, by simp, ⟨by simp, by simp, by simp, by simp⟩, fp, hOa.out, hfr.out⟩
      case round =>
        obtain ⟨j, hj, rfl, hbi, hs2, ⟨q0, q1, q2, q3⟩, fpi, hOi, hni⟩ := hrel
        clear hOa hfr hba
        obtain ⟨wi, rfl⟩ : ∃ wi : World, wi = wr := ⟨_, rfl⟩
        by_cases hjl : j < m
        · obtain ⟨g', o', q', y, e', hg', hyj, b0, b1, b2, b3, b4⟩ := hop_at hin (by rw [← Hm.out]; exact hjl)
          rw [← Hm.out] at e'
          cases e'
          replace b0 := ck hbi b0
          replace b1 := ck hbi b1
          replace b2 := ck hbi b2
          replace b3 := ck hbi b3
          replace b4 := ck hbi b4
          obtain ⟨li, Hli⟩ : ∃ li, Hid (li = hopsTo k x l0 j) := ⟨_, rfl⟩
          have hlen : li.length ≤ 1048576 := by rw [Hli.out]; exact Hbd.out j hj
          have Hnx : Hid (hopsTo k x l0 (j + 1) = addHop k x li j) := by show _ = _; rw [hopsTo_succ, Hli.out]
          rw [← Hli.out] at hOi
          obtain ⟨Av, cv, ev, _⟩ := hOi.form
          subst ev
          obtain ⟨wj, Hwj⟩ : ∃ wj, Hid (wj = wi.alloc (.cells #[I y.ia, I y.ing, I y.eg, I y.exp, I y.mac] 93)) := ⟨_, rfl⟩
          have Hsz : Hid (wj.heap.size = wi.heap.size + 1) := by show _ = _; rw [Hwj.out]; simp
          have hij : Below wi.heap.size wi wj := by rw [Hwj.out]; exact ext_alloc1 _ _
          have HS : Hid (∀ w', Below wj.heap.size wj w' → (w'.cell? ⟨wo.heap.size, 0, none⟩ = some (I x.kind) ∧ w'.cell? ⟨wo.heap.size, 1, none⟩ = some (I x.ts) ∧ w'.cell? ⟨wo.heap.size, 2, none⟩ = some (I x.beta) ∧ w'.cell? ⟨wo.heap.size, 3, none⟩ = some (.slice (some ⟨g', o', none⟩) m d) ∧ w'.cell? ⟨wi.heap.size, 0, none⟩ = some (I y.ia))) := fun w' hw => by
            have hx := ext_trans hij hw
            exact ⟨ck hx q0, ck hx q1, ck hx q2, ck hx q3, ck hw (by rw [Hwj.out]; simp)⟩
          have hR : ∀ w' : World, Below wj.heap.size wj w' → partT.R w' [I x.kind, I x.ts, I x.beta, .slice (some ⟨g', o', none⟩) m d] x := fun w' hw => by
            have := part_mk (d := x) (A3 := some ⟨g', o', none⟩) (cA3 := d) (w := w') (by rw [← Hm.out]; exact hin.below (ext_trans hbi (ext_trans hij hw)))
            rw [← Hm.out] at this
            exact this
          obtain ⟨vi, Hvi⟩ : ∃ vi, Hid (vi = partIn x j) := ⟨_, rfl⟩
          obtain ⟨vo, Hvo⟩ : ∃ vo, Hid (vo = partOut x j) := ⟨_, rfl⟩
          have HI : Hid (∀ w', Below wj.heap.size wj w' → Calls Try.prog 142 #[.agg #[I x.kind, I x.ts, I x.beta, .slice (some ⟨g', o', none⟩) m d], I j] w' fun e w'' => e = .returned (I vi) ∧ Below w'.heap.size w' w'') := fun w' hw => by
            have := impl_PartIngress x _ j w' (hR w' hw) (by rw [← Hm.out]; exact hm2) (by omega)
            rw [Int.toNat_natCast, ← Hvi.out] at this
            exact this
          have HE : Hid (∀ w', Below wj.heap.size wj w' → Calls Try.prog 140 #[.agg #[I x.kind, I x.ts, I x.beta, .slice (some ⟨g', o', none⟩) m d], I j] w' fun e w'' => e = .returned (I vo) ∧ Below w'.heap.size w' w'') := fun w' hw => by
            have := impl_PartEgress x _ j w' (hR w' hw) (by rw [← Hm.out]; exact hm2) (by omega)
            rw [Int.toNat_natCast, ← Hvo.out] at this
            exact this
          have hOj : Hid (SlO stepT 131 w.heap.size wj (.slice Av li.length cv) li fpi) := hOi.below hij
          have Hni := hid hni
          have Hni2 : Hid (wi.heap.size ∉ fpi) := fun hm => Nat.lt_irrefl _ (hOi.size_ok _ hm).2
          clear hR
          rcases Nat.eq_zero_or_pos k with hk0 | hk0
          · have g1 : decide (0 < k) = false := by simp; omega
            have g1' : decide ((0 : Int) < k) = false := by simp; omega
            have hJ : Hid (joinAt k x li j = false) := by show _ = _; simp [joinAt, hk0]
            clear hk0
            go_wp2
            rw [← Hwj.out]
            go_quiet (fail)
            go_wp2
            go_region_held3 (fun w' => (w'.cell? ⟨wo.heap.size, 0, none⟩ = some (I x.kind) ∧ w'.cell? ⟨wo.heap.size, 1, none⟩ = some (I x.ts) ∧ w'.cell? ⟨wo.heap.size, 2, none⟩ = some (I x.beta) ∧ w'.cell? ⟨wo.heap.size, 3, none⟩ = some (.slice (some ⟨g', o', none⟩) m d) ∧ w'.cell? ⟨wi.heap.size, 0, none⟩ = some (I y.ia)))
              (first | exact HS.out _ ((below_drewN (Below.refl _ _) _).drew) | exact HS.out _ x1 | exact HS.out _ x2 | exact HS.out _ (ext_alloc x2 _) | exact z3 | go_keep)
              (first | (go_at_call 142; refine (HI.out _ ((below_drewN (Below.refl _ _) _).drew)).mono ?_; rintro e w1 ⟨rfl, hb1⟩; have x1 := ext_trans ((below_drewN (Below.refl _ wj) _).drew) hb1) | (go_at_call 140; refine (HE.out _ x1).mono ?_; rintro e w2 ⟨rfl, hb2⟩; have x2 := ext_trans x1 hb2) | (refine step_cat step_flat (.tmp 55) (.tmp 65) et_step ((hOj.out.below x2).alloc _) (lit_one w2 131 (⟨y.ia, vi, vo⟩ : Stp) 1 w2.heap.size (Nat.le_refl _) rfl #[I y.ia, I vi, I vo] (fun _ => rfl)) (by simp; omega) (by simp [maxLen]; omega) (by have := x2.size; have := hbi.size; have := Hsz.out; simp; omega) (by rfl) (by rfl) (by rfl) (by rfl) ?_; intro v3 w3 fp3 hO3 hfp3 hkp3; have z2 := HS.out _ (ext_alloc x2 (.cells #[I y.ia, I vi, I vo] 131)); have z3 := And.intro (hkp3.ck z2.1 Hni.out) (And.intro (hkp3.ck z2.2.1 Hni.out) (And.intro (hkp3.ck z2.2.2.1 Hni.out) (And.intro (hkp3.ck z2.2.2.2.1 Hni.out) (hkp3.ck z2.2.2.2.2 Hni2.out))))))
            have y3 : Below w.heap.size w w3 := (ext_trans hbi (ext_trans hij (ext_alloc x2 _))).trans (hkp3.below (fun b hb => (hOj.out.size_ok b hb).1) (by have := x2.size; have := hbi.size; have := Hsz.out; simp; omega))
            have z4 : wo.heap.size + 1 ≤ w3.heap.size := by have := hkp3.size; have := x2.size; have := Hsz.out; simp at *; omega
            go_wp2
            go_roundw
            case rel =>
              refine ⟨j + 1, by omega, by go_num, y3, z4, ⟨z3.1, z3.2.1, z3.2.2.1, z3.2.2.2.1⟩, fp3, by rw [Hnx.out, addHop_new hJ.out, hopIa_at hyj.out, ← Hvi.out, ← Hvo.out]; exact hO3, fun hm => ?_⟩
              rcases hfp3 _ hm with hm | hm
              · exact Hni.out hm
              · have := x2.size; have := Hsz.out; simp at hm; omega
            case measure => simp [intOf]; omega
          · have g1 : decide (0 < k) = true := by simp; omega
            have g1' : decide ((0 : Int) < k) = true := by simp; omega
            rcases Nat.eq_zero_or_pos j with hj0 | hj0
            · have g2 : ((j : Int) == 0) = true := by simp; omega
              have g2' : (j == 0) = true := by simp; omega
              rcases Nat.eq_zero_or_pos li.length with hl0 | hl0
              · have g3 : decide ((1 : Int) ≤ (li.length : Int)) = false := by simp; omega
                have hJ : Hid (joinAt k x li j = false) := by show _ = _; simp [joinAt, hl0]
                clear hj0 hl0 hk0
                go_wp2
                rw [← Hwj.out]
                go_quiet (fail)
                go_wp2
                go_region_held3 (fun w' => (w'.cell? ⟨wo.heap.size, 0, none⟩ = some (I x.kind) ∧ w'.cell? ⟨wo.heap.size, 1, none⟩ = some (I x.ts) ∧ w'.cell? ⟨wo.heap.size, 2, none⟩ = some (I x.beta) ∧ w'.cell? ⟨wo.heap.size, 3, none⟩ = some (.slice (some ⟨g', o', none⟩) m d) ∧ w'.cell? ⟨wi.heap.size, 0, none⟩ = some (I y.ia)))
                  (first | exact HS.out _ ((below_drewN (Below.refl _ _) _).drew) | exact HS.out _ x1 | exact HS.out _ x2 | exact HS.out _ (ext_alloc x2 _) | exact z3 | go_keep)
                  (first | (go_at_call 142; refine (HI.out _ ((below_drewN (Below.refl _ _) _).drew)).mono ?_; rintro e w1 ⟨rfl, hb1⟩; have x1 := ext_trans ((below_drewN (Below.refl _ wj) _).drew) hb1) | (go_at_call 140; refine (HE.out _ x1).mono ?_; rintro e w2 ⟨rfl, hb2⟩; have x2 := ext_trans x1 hb2) | (refine step_cat step_flat (.tmp 55) (.tmp 65) et_step ((hOj.out.below x2).alloc _) (lit_one w2 131 (⟨y.ia, vi, vo⟩ : Stp) 1 w2.heap.size (Nat.le_refl _) rfl #[I y.ia, I vi, I vo] (fun _ => rfl)) (by simp; omega) (by simp [maxLen]; omega) (by have := x2.size; have := hbi.size; have := Hsz.out; simp; omega) (by rfl) (by rfl) (by rfl) (by rfl) ?_; intro v3 w3 fp3 hO3 hfp3 hkp3; have z2 := HS.out _ (ext_alloc x2 (.cells #[I y.ia, I vi, I vo] 131)); have z3 := And.intro (hkp3.ck z2.1 Hni.out) (And.intro (hkp3.ck z2.2.1 Hni.out) (And.intro (hkp3.ck z2.2.2.1 Hni.out) (And.intro (hkp3.ck z2.2.2.2.1 Hni.out) (hkp3.ck z2.2.2.2.2 Hni2.out))))))
                have y3 : Below w.heap.size w w3 := (ext_trans hbi (ext_trans hij (ext_alloc x2 _))).trans (hkp3.below (fun b hb => (hOj.out.size_ok b hb).1) (by have := x2.size; have := hbi.size; have := Hsz.out; simp; omega))
                have z4 : wo.heap.size + 1 ≤ w3.heap.size := by have := hkp3.size; have := x2.size; have := Hsz.out; simp at *; omega
                go_wp2
                go_roundw
                case rel =>
                  refine ⟨j + 1, by omega, by go_num, y3, z4, ⟨z3.1, z3.2.1, z3.2.2.1, z3.2.2.2.1⟩, fp3, by rw [Hnx.out, addHop_new hJ.out, hopIa_at hyj.out, ← Hvi.out, ← Hvo.out]; exact hO3, fun hm => ?_⟩
                  rcases hfp3 _ hm with hm | hm
                  · exact Hni.out hm
                  · have := x2.size; have := Hsz.out; simp at hm; omega
                case measure => simp [intOf]; omega
              · have g3 : decide ((1 : Int) ≤ (li.length : Int)) = true := by simp; omega
                obtain ⟨L, HL⟩ : ∃ L, li.length = L + 1 := ⟨li.length - 1, by omega⟩
                obtain ⟨gs, os, qs, sl, es, hgs, hsl, s0, s1, s2⟩ := step_at (k := L) hOi.read (by omega)
                have hL : lastOf li = sl := lastOf_at (by rw [HL]; exact hsl.out)
                obtain ⟨ga, ca, ea, hga, hgb, hgc, hgd, hgf⟩ := hOi.addr (by omega)
                cases ea
                cases es
                rw [Nat.zero_add] at s0 s1 s2
                have hL2 : L ≤ 1048576 := by omega
                have hL3 : L < L + 1 := Nat.lt_succ_self L
                rw [HL] at hOi hOj g3 ⊢
                replace s0 := ck hij s0
                replace s1 := ck hij s1
                replace s2 := ck hij s2
                have t0 : wj.cell? ⟨wi.heap.size, 0, none⟩ = some (I y.ia) := by rw [Hwj.out]; simp
                have HL' := hid HL
                cases g4 : (sl.ia == y.ia)
                · have hJ : Hid (joinAt k x li j = false) := by show _ = _; simp only [joinAt, hL, hopIa_at hyj.out, g4, Bool.and_false]
                  clear hj0 hk0 hl0 HL hL
                  go_wp2
                  rw [← Hwj.out]
                  go_quiet (fail)
                  go_wp2
                  go_region_held3 (fun w' => (w'.cell? ⟨wo.heap.size, 0, none⟩ = some (I x.kind) ∧ w'.cell? ⟨wo.heap.size, 1, none⟩ = some (I x.ts) ∧ w'.cell? ⟨wo.heap.size, 2, none⟩ = some (I x.beta) ∧ w'.cell? ⟨wo.heap.size, 3, none⟩ = some (.slice (some ⟨g', o', none⟩) m d) ∧ w'.cell? ⟨wi.heap.size, 0, none⟩ = some (I y.ia)))
                    (first | exact HS.out _ ((below_drewN (Below.refl _ _) _).drew) | exact HS.out _ x1 | exact HS.out _ x2 | exact HS.out _ (ext_alloc x2 _) | exact z3 | go_keep)
                    (first | (go_at_call 142; refine (HI.out _ ((below_drewN (Below.refl _ _) _).drew)).mono ?_; rintro e w1 ⟨rfl, hb1⟩; have x1 := ext_trans ((below_drewN (Below.refl _ wj) _).drew) hb1) | (go_at_call 140; refine (HE.out _ x1).mono ?_; rintro e w2 ⟨rfl, hb2⟩; have x2 := ext_trans x1 hb2) | (refine step_cat step_flat (.tmp 55) (.tmp 65) et_step ((hOj.out.below x2).alloc _) (lit_one w2 131 (⟨y.ia, vi, vo⟩ : Stp) 1 w2.heap.size (Nat.le_refl _) rfl #[I y.ia, I vi, I vo] (fun _ => rfl)) (by simp; omega) (by simp [maxLen]; omega) (by have := x2.size; have := hbi.size; have := Hsz.out; simp; omega) (by rfl) (by rfl) (by rfl) (by rfl) ?_; intro v3 w3 fp3 hO3 hfp3 hkp3; have z2 := HS.out _ (ext_alloc x2 (.cells #[I y.ia, I vi, I vo] 131)); have z3 := And.intro (hkp3.ck z2.1 Hni.out) (And.intro (hkp3.ck z2.2.1 Hni.out) (And.intro (hkp3.ck z2.2.2.1 Hni.out) (And.intro (hkp3.ck z2.2.2.2.1 Hni.out) (hkp3.ck z2.2.2.2.2 Hni2.out))))))
                  have y3 : Below w.heap.size w w3 := (ext_trans hbi (ext_trans hij (ext_alloc x2 _))).trans (hkp3.below (fun b hb => (hOj.out.size_ok b hb).1) (by have := x2.size; have := hbi.size; have := Hsz.out; simp; omega))
                  have z4 : wo.heap.size + 1 ≤ w3.heap.size := by have := hkp3.size; have := x2.size; have := Hsz.out; simp at *; omega
                  go_wp2
                  go_roundw
                  case rel =>
                    refine ⟨j + 1, by omega, by go_num, y3, z4, ⟨z3.1, z3.2.1, z3.2.2.1, z3.2.2.2.1⟩, fp3, by rw [Hnx.out, addHop_new hJ.out, hopIa_at hyj.out, ← Hvi.out, ← Hvo.out]; exact hO3, fun hm => ?_⟩
                    rcases hfp3 _ hm with hm | hm
                    · exact Hni.out hm
                    · have := x2.size; have := Hsz.out; simp at hm; omega
                  case measure => simp [intOf]; omega
                · have hJ : Hid (joinAt k x li j = true) := by show _ = _; simp only [joinAt, hL, hopIa_at hyj.out, g4]; simp; omega
                  have HLa := hid hL
                  clear hj0 hk0 hl0 HL hL
                  go_wp2
                  rw [← Hwj.out]
                  go_quiet (fail)
                  replace q0 := ck hij q0
                  replace q1 := ck hij q1
                  replace q2 := ck hij q2
                  replace q3 := ck hij q3
                  go_wp2_with (fail)
                  refine (HE.out _ (below_drewN (Below.refl _ _) _)).mono ?_
                  rintro e w1 ⟨rfl, hb1⟩
                  have x1 := ext_trans (below_drewN (Below.refl _ wj) _) hb1
                  have hO1 := hOj.out.below x1
                  obtain ⟨gb, cb, eb, _, _, _, _, hfz⟩ := hO1.addr (by rw [HL'.out]; omega)
                  rw [HL'.out] at eb
                  cases eb
                  have hfz' := hfz (L * 3 + 2)
                  obtain ⟨u2, hu2⟩ : ∃ u, w1.cell? ⟨gs, L * 3 + 2, none⟩ = some u := ⟨_, ck x1 s2⟩
                  have K2 : Kept fpi wj (w1.setCell ⟨gs, L * 3 + 2, none⟩ (I vo)) := (Kept.of_below x1 fpi).setCell hga (I vo)
                  have HK2 := hid K2
                  clear K2
                  go_wp2
                  go_roundw
                  case rel =>
                    refine ⟨j + 1, by omega, by go_num, (ext_trans hbi hij).trans (HK2.out.below (fun b hb => (hOj.out.size_ok b hb).1) (by have := hbi.size; have := Hsz.out; omega)), Nat.le_trans (by have := Hsz.out; omega) HK2.out.size, ⟨HK2.out.ck q0 Hni.out, HK2.out.ck q1 Hni.out, HK2.out.ck q2 Hni.out, HK2.out.ck q3 Hni.out⟩, fpi, ?_, Hni.out⟩
                    have := SlO.put (i := L) (j := 2) (a := sl) (a' := { sl with eg := vo }) (u := I vo) hO1 HL'.out.symm (fun _ _ _ _ _ h => h) hsl.out (by show 2 < 3; omega) (fun w cs f hh => step_put2 hh vo)
                    rw [Hnx.out, addHop_join hJ.out, HLa.out, HL'.out, ← Hvo.out]
                    exact this
                  case measure => simp [intOf]; omega
            · have g2 : ((j : Int) == 0) = false := by simp; omega
              have g2' : (j == 0) = false := by simp; omega
              have hJ : Hid (joinAt k x li j = false) := by show _ = _; simp [joinAt]; omega
              clear hj0 hk0
              go_wp2
              rw [← Hwj.out]
              go_quiet (fail)
              go_wp2
              go_region_held3 (fun w' => (w'.cell? ⟨wo.heap.size, 0, none⟩ = some (I x.kind) ∧ w'.cell? ⟨wo.heap.size, 1, none⟩ = some (I x.ts) ∧ w'.cell? ⟨wo.heap.size, 2, none⟩ = some (I x.beta) ∧ w'.cell? ⟨wo.heap.size, 3, none⟩ = some (.slice (some ⟨g', o', none⟩) m d) ∧ w'.cell? ⟨wi.heap.size, 0, none⟩ = some (I y.ia)))
                (first | exact HS.out _ ((below_drewN (Below.refl _ _) _).drew) | exact HS.out _ x1 | exact HS.out _ x2 | exact HS.out _ (ext_alloc x2 _) | exact z3 | go_keep)
                (first | (go_at_call 142; refine (HI.out _ ((below_drewN (Below.refl _ _) _).drew)).mono ?_; rintro e w1 ⟨rfl, hb1⟩; have x1 := ext_trans ((below_drewN (Below.refl _ wj) _).drew) hb1) | (go_at_call 140; refine (HE.out _ x1).mono ?_; rintro e w2 ⟨rfl, hb2⟩; have x2 := ext_trans x1 hb2) | (refine step_cat step_flat (.tmp 55) (.tmp 65) et_step ((hOj.out.below x2).alloc _) (lit_one w2 131 (⟨y.ia, vi, vo⟩ : Stp) 1 w2.heap.size (Nat.le_refl _) rfl #[I y.ia, I vi, I vo] (fun _ => rfl)) (by simp; omega) (by simp [maxLen]; omega) (by have := x2.size; have := hbi.size; have := Hsz.out; simp; omega) (by rfl) (by rfl) (by rfl) (by rfl) ?_; intro v3 w3 fp3 hO3 hfp3 hkp3; have z2 := HS.out _ (ext_alloc x2 (.cells #[I y.ia, I vi, I vo] 131)); have z3 := And.intro (hkp3.ck z2.1 Hni.out) (And.intro (hkp3.ck z2.2.1 Hni.out) (And.intro (hkp3.ck z2.2.2.1 Hni.out) (And.intro (hkp3.ck z2.2.2.2.1 Hni.out) (hkp3.ck z2.2.2.2.2 Hni2.out))))))
              have y3 : Below w.heap.size w w3 := (ext_trans hbi (ext_trans hij (ext_alloc x2 _))).trans (hkp3.below (fun b hb => (hOj.out.size_ok b hb).1) (by have := x2.size; have := hbi.size; have := Hsz.out; simp; omega))
              have z4 : wo.heap.size + 1 ≤ w3.heap.size := by have := hkp3.size; have := x2.size; have := Hsz.out; simp at *; omega
              go_wp2
              go_roundw
              case rel =>
                refine ⟨j + 1, by omega, by go_num, y3, z4, ⟨z3.1, z3.2.1, z3.2.2.1, z3.2.2.2.1⟩, fp3, by rw [Hnx.out, addHop_new hJ.out, hopIa_at hyj.out, ← Hvi.out, ← Hvo.out]; exact hO3, fun hm => ?_⟩
                rcases hfp3 _ hm with hm | hm
                · exact Hni.out hm
                · have := x2.size; have := Hsz.out; simp at hm; omega
              case measure => simp [intOf]; omega
        · have hjm : j = m := by omega
          subst hjm
          go_wp2
          go_roundw
          case rel => exact ⟨k + 1, by omega, by go_num, hbi, fpi, by rw [hsuc.out]; exact hOi⟩
          case measure => simp [intOf]; omega
    · have hkn : k = n := by omega
      subst hkn
      rw [H.out] at hO
      obtain ⟨l, Hl⟩ : ∃ l, Hid (l = rawSteps p p.length) := ⟨_, rfl⟩
      have Hps : Hid (pathSteps p = cutLast (cutFirst l)) := by show _ = _; rw [Hl.out]; rfl
      have hlen : l.length ≤ 1048576 := by rw [Hl.out]; exact Nat.le_trans (rawSteps_bound _ _) Hz.out
      rw [← Hl.out] at hO
      obtain ⟨Av, cv, ev, _⟩ := hO.form
      subst ev
      rcases Nat.eq_zero_or_pos l.length with hl0 | hl0
      · have hlz : l = [] := List.length_eq_zero_iff.1 hl0
        subst hlz
        go_wp2
        go_ret
        exact ⟨_, fp, rfl, by rw [Hps.out]; exact hO, hb⟩
      · obtain ⟨L, HL⟩ : ∃ L, l.length = L + 1 := ⟨l.length - 1, by omega⟩
        have hL2 : L ≤ 1048576 := by omega
        obtain ⟨g, ca, ea, hga, hgb, hgc, hgd, hgf⟩ := hO.addr (by omega)
        cases ea
        have f1 := hgf 1
        obtain ⟨g1, o1, q1, sf, e1, _, hsf, r0, r1, r2⟩ := step_at (k := 0) hO.read (by omega)
        cases e1
        simp only [Nat.zero_mul, Nat.zero_add, Nat.add_zero] at r0 r1 r2
        have hO1 := SlO.put (i := 0) (j := 1) (a := sf) (a' := { sf with ing := 0 }) (u := I 0) hO rfl (fun _ _ _ _ _ h => h) hsf.out (by show 1 < 3; omega) (fun w cs f hh => step_put1 hh 0)
        have e2 : l.set 0 { sf with ing := 0 } = cutFirst l := by unfold cutFirst; rw [firstOf_at hsf.out]
        rw [e2] at hO1
        have hcl : (cutFirst l).length = l.length := by unfold cutFirst; simp
        obtain ⟨g2, o2, q2, sg, e2', _, hsg, t0, t1, t2⟩ := step_at (k := L) hO1.read (by omega)
        rw [hcl] at e2'
        cases e2'
        have hO2 := SlO.put (i := L) (j := 2) (a := sg) (a' := { sg with eg := 0 }) (u := I 0) hO1 hcl.symm (fun _ _ _ _ _ h => h) hsg.out (by show 2 < 3; omega) (fun w cs f hh => step_put2 hh 0)
        have e3 : (cutFirst l).set L { sg with eg := 0 } = cutLast (cutFirst l) := by
          have hh : (cutFirst l).length - 1 = L := by omega
          unfold cutLast
          rw [lastOf_at (by rw [hh]; exact hsg.out), hh]
        rw [e3, ← Hps.out] at hO2
        obtain ⟨g3, c3, e4, _, _, _, _, hf3⟩ := hO1.addr (by omega)
        rw [hcl] at e4
        cases e4
        have f2 := hf3 (L * 3 + 2)
        have HL' := hid HL
        rw [HL] at hO hO1 hO2 ⊢
        have HO2 := hid hO2
        have hb2 := hid ((hb.setCell (p := ⟨g, 0 * stepT.size + 1, none⟩) hgb (I 0)).setCell (p := ⟨g, L * stepT.size + 2, none⟩) hgb (I 0))
        clear hl0 HL hO2 hO1 hO e2 e3 hcl
        simp only [show stepT.size = 3 from rfl, Nat.zero_mul, Nat.zero_add] at t0 t1 t2 f2 HO2 hb2
        go_wp2
        go_ret
        exact ⟨_, fp, rfl, HO2.out, hb2.out⟩

end Go.Proofs.Ytfgobdejlfojiaa
