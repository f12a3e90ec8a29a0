/- PathSteps of the reference. -/
import Derived.Test.YtfgobdejlfojiaaPathSteps
import Derived.Deep.DeepCutAuto
namespace Go.Proofs.Ytfgobdejlfojiaa
open Go.RowKit
set_option linter.unusedVariables false

/-- A box of three cells, just made, behind a call that came after. -/
theorem nb3 {w w2 : World} {z0 z1 z2 : Value} {t : TypeId} (hb : Below (w.alloc (.cells #[z0, z1, z2] t)).heap.size (w.alloc (.cells #[z0, z1, z2] t)) w2) :
    w2.cell? ⟨w.heap.size, 0, none⟩ = some z0 ∧ w2.cell? ⟨w.heap.size, 1, none⟩ = some z1 ∧ w2.cell? ⟨w.heap.size, 2, none⟩ = some z2 ∧ w2.frozen? ⟨w.heap.size, 0, none⟩ = false ∧ w2.frozen? ⟨w.heap.size, 1, none⟩ = false ∧ w2.frozen? ⟨w.heap.size, 2, none⟩ = false :=
  ⟨ck hb (show (w.alloc (.cells #[z0, z1, z2] t)).cell? ⟨w.heap.size, 0, none⟩ = some z0 by simp), ck hb (show (w.alloc (.cells #[z0, z1, z2] t)).cell? ⟨w.heap.size, 1, none⟩ = some z1 by simp), ck hb (show (w.alloc (.cells #[z0, z1, z2] t)).cell? ⟨w.heap.size, 2, none⟩ = some z2 by simp),
   by rw [hb.frozen (p := ⟨w.heap.size, 0, none⟩) (by simp)]; simp, by rw [hb.frozen (p := ⟨w.heap.size, 1, none⟩) (by simp)]; simp, by rw [hb.frozen (p := ⟨w.heap.size, 2, none⟩) (by simp)]; simp⟩
theorem nb3d {w w2 : World} {z0 z1 z2 : Value} {t : TypeId} (hb : Below (w.drew.alloc (.cells #[z0, z1, z2] t)).heap.size (w.drew.alloc (.cells #[z0, z1, z2] t)) w2) :
    w2.cell? ⟨w.heap.size, 0, none⟩ = some z0 ∧ w2.cell? ⟨w.heap.size, 1, none⟩ = some z1 ∧ w2.cell? ⟨w.heap.size, 2, none⟩ = some z2 ∧ w2.frozen? ⟨w.heap.size, 0, none⟩ = false ∧ w2.frozen? ⟨w.heap.size, 1, none⟩ = false ∧ w2.frozen? ⟨w.heap.size, 2, none⟩ = false := nb3 (w := w.drew) hb
theorem box3 {w2 : World} {g : Nat} {z0 z1 z2 a b c : Value} (h0 : w2.cell? ⟨g, 0, none⟩ = some z0) (h1 : w2.cell? ⟨g, 1, none⟩ = some z1) (h2 : w2.cell? ⟨g, 2, none⟩ = some z2) (h3 : w2.frozen? ⟨g, 1, none⟩ = false) :
    (((w2.setCell ⟨g, 0, none⟩ a).setCell ⟨g, 1, none⟩ b).setCell ⟨g, 2, none⟩ c).cell? ⟨g, 0, none⟩ = some a ∧
    (((w2.setCell ⟨g, 0, none⟩ a).setCell ⟨g, 1, none⟩ b).setCell ⟨g, 2, none⟩ c).cell? ⟨g, 1, none⟩ = some b ∧
    (((w2.setCell ⟨g, 0, none⟩ a).setCell ⟨g, 1, none⟩ b).setCell ⟨g, 2, none⟩ c).cell? ⟨g, 2, none⟩ = some c ∧
    (((w2.setCell ⟨g, 0, none⟩ a).setCell ⟨g, 1, none⟩ b).setCell ⟨g, 2, none⟩ c).frozen? ⟨g, 1, none⟩ = false := by
  have n1 : ∀ i j : Nat, i ≠ j → (⟨g, i, none⟩ : Addr) ≠ ⟨g, j, none⟩ := fun i j h e => h (by injection e)
  refine ⟨?_, ?_, ?_, by simp [h3]⟩
  · rw [World.cell?_setCell_other (h := n1 2 0 (by omega)), World.cell?_setCell_other (h := n1 1 0 (by omega))]
    exact World.cell?_setCell_same (h := h0) ..
  · rw [World.cell?_setCell_other (h := n1 2 1 (by omega))]
    exact World.cell?_setCell_same (h := by rw [World.cell?_setCell_other (h := n1 0 1 (by omega))]; exact h1) ..
  · exact World.cell?_setCell_same (h := by rw [World.cell?_setCell_other (h := n1 1 2 (by omega)), World.cell?_setCell_other (h := n1 0 2 (by omega))]; exact h2) ..

theorem step_put0 {base : Nat} {w : World} {cs : List Value} {s : Stp} {f : List Nat} (h : stepT.O base w cs s f) (v : Int) : stepT.O base w (cs.set 0 (I v)) { s with ia := v } f := by
  have e : cs = [I s.ia, I s.ing, I s.eg] := h.1
  subst e
  exact ⟨rfl, h.2⟩
/-- A store of a whole step. -/
theorem put3 {base : Nat} {w : World} {g n c : Nat} {l : List Stp} {fp : List Nat} (h : SlO stepT 131 base w (.slice (some ⟨g, 0, none⟩) n c) l fp) (hn : n = l.length) {i : Nat} {s : Stp} (hi : l[i]? = some s) (a b d : Int) :
    SlO stepT 131 base (((w.setCell ⟨g, i * 3, none⟩ (I a)).setCell ⟨g, i * 3 + 1, none⟩ (I b)).setCell ⟨g, i * 3 + 2, none⟩ (I d)) (.slice (some ⟨g, 0, none⟩) n c) (l.set i ⟨a, b, d⟩) fp := by
  have hlt := (List.getElem?_eq_some_iff.1 hi).1
  have h1 := SlO.put (i := i) (j := 0) (a := s) (a' := { s with ia := a }) (u := I a) h hn (fun _ _ _ _ _ h => h) hi (by show 0 < 3; omega) (fun w cs f hh => step_put0 hh a)
  have h2 := SlO.put (i := i) (j := 1) (a := { s with ia := a }) (a' := { s with ia := a, ing := b }) (u := I b) h1 (by simp [hn]) (fun _ _ _ _ _ h => h) (by rw [List.getElem?_set_self hlt]) (by show 1 < 3; omega) (fun w cs f hh => step_put1 hh b)
  have h3 := SlO.put (i := i) (j := 2) (a := { s with ia := a, ing := b }) (a' := ⟨a, b, d⟩) (u := I d) h2 (by simp [hn]) (fun _ _ _ _ _ h => h) (by rw [List.getElem?_set_self (by simpa using hlt)]) (by show 2 < 3; omega) (fun w cs f hh => step_put2 hh d)
  rw [List.set_set, List.set_set] at h3
  exact h3

set_option maxRecDepth 100000 in
set_option maxHeartbeats 8000000 in
theorem spec_PathSteps (p : Path) (cs : List Value) (w : World) (h : pathT.R w cs p) (hz : sz_path p ≤ 1048576) (hl : lenOk_path p) (hg : rng_path p) :
    Calls Try.prog 120 #[.agg cs.toArray] w fun r w' => ∃ v fp, r = .returned v ∧ SlO stepT 131 w.heap.size w' v (pathSteps p) fp ∧ Below w.heap.size w w' := by
  obtain ⟨A, c, rfl, ⟨h, _⟩⟩ := path_form h
  obtain ⟨n, H⟩ : ∃ n, Hid (n = p.length) := ⟨_, rfl⟩
  have hn : n ≤ 1048576 := by rw [H.out]; have : sz_path p = List.length p + (p.map sz_part).sum := rfl; omega
  have Hz := hid hz
  clear hz hl hg
  rw [← H.out] at h ⊢
  have hb0 : Below w.heap.size w ((w.alloc (.cells #[.slice A n c] 39)).alloc (.cells #[] 131)) := ext_alloc (ext_alloc1 _ _) _
  have P0 : Hid (((w.alloc (.cells #[.slice A n c] 39)).alloc (.cells #[] 131)).cell? ⟨w.heap.size, 0, none⟩ = some (.slice A n c)) := by show _ = _; simp
  have hE : SlO stepT 131 (w.heap.size + 1) ((w.alloc (.cells #[.slice A n c] 39)).alloc (.cells #[] 131)) (.slice (some ⟨w.heap.size + 1, 0, none⟩) 0 0) [] [w.heap.size + 1] := by
    have := SlO.empty stepT 131 (w.alloc (.cells #[.slice A n c] 39))
    simpa using this
  have HE := hid hE
  clear hE
  go_enter Try.func120, Try.ntmps120
  go_wp2
  go_loopw [3, 4] (fun v i wr => ∃ k : Nat, k ≤ n ∧ i = I k ∧ Below w.heap.size w wr ∧ w.heap.size + 1 ≤ wr.heap.size ∧ wr.cell? ⟨w.heap.size, 0, none⟩ = some (.slice A n c) ∧ ∃ fp, SlO stepT 131 (w.heap.size + 1) wr v (rawSteps p k) fp) (fun _ i _ => n - (intOf i).toNat)
  case atStart => exact ⟨0, by omega, rfl, hb0, by simp, P0.out, _, HE.out⟩
  case round =>
    obtain ⟨k, hk, rfl, hb, hs1, p0, fp, hO⟩ := hrel
    clear hb0 P0 HE
    obtain ⟨wo, rfl⟩ : ∃ wo : World, wo = wr := ⟨_, rfl⟩
    by_cases hlt : k < n
    · obtain ⟨g, o, q, x, B, d, e, hg, hxk, hin, hd, c0, c1, c2, c3⟩ := part_at h (by rw [← H.out]; exact hlt)
      rw [← H.out] at e
      cases e
      have hm2 : x.hops.length ≤ 1048576 := Nat.le_trans (hops_le_path (List.mem_of_getElem? hxk.out)) Hz.out
      obtain ⟨m, Hm⟩ : ∃ m, Hid (m = x.hops.length) := ⟨_, rfl⟩
      rw [← Hm.out] at hin hd hm2 c3
      have Hbd : Hid (∀ j, j ≤ m → (hopsTo k x (rawSteps p k) j).length ≤ 1048576) := fun j hj => Nat.le_trans (hopsTo_bound hxk.out (by rw [← Hm.out]; exact hj)) Hz.out
      have hsuc : Hid (rawSteps p (k + 1) = hopsTo k x (rawSteps p k) m) := by show _ = _; rw [Hm.out]; exact rawSteps_succ hxk.out
      obtain ⟨l0, Hl0⟩ : ∃ l0, Hid (l0 = rawSteps p k) := ⟨_, rfl⟩
      rw [← Hl0.out] at hO hsuc Hbd
      have C0 := hid c0
      have C1 := hid c1
      have C2 := hid c2
      have C3 := hid c3
      clear c0 c1 c2 c3
      have HO := hid hO
      clear hO
      go_wp2
      go_loopw [3, 5] (fun v i wr => ∃ j : Nat, j ≤ m ∧ i = I j ∧ Below w.heap.size w wr ∧ w.heap.size + 1 ≤ wr.heap.size ∧ wr.cell? ⟨w.heap.size, 0, none⟩ = some (.slice (some ⟨g, o, none⟩) n c) ∧ ∃ fp, SlO stepT 131 (w.heap.size + 1) wr v (hopsTo k x l0 j) fp) (fun _ i _ => m - (intOf i).toNat)
      case atStart => exact ⟨0, by omega, rfl, hb, hs1, p0, fp, HO.out⟩
      case round =>
        obtain ⟨j, hj, rfl, hbi, hs2, q0, fpi, hOi⟩ := hrel
        clear HO p0 hb hs1
        obtain ⟨wi, rfl⟩ : ∃ wi : World, wi = wr := ⟨_, rfl⟩
        have d3 := ck hbi C3.out
        by_cases hjl : j < m
        · obtain ⟨g', o', q', y, e', hg', hyj, b0, b1, b2, b3, b4⟩ := hop_at hin (by rw [← Hm.out]; exact hjl)
          rw [← Hm.out] at e'
          cases e'
          have HS : Hid (∀ w', Below wi.heap.size wi w' → (w'.cell? ⟨w.heap.size, 0, none⟩ = some (.slice (some ⟨g, o, none⟩) n c) ∧ w'.cell? ⟨g, o + k * 4, none⟩ = some (I x.kind) ∧ w'.cell? ⟨g, o + k * 4 + 1, none⟩ = some (I x.ts) ∧ w'.cell? ⟨g, o + k * 4 + 2, none⟩ = some (I x.beta) ∧ w'.cell? ⟨g, o + k * 4 + 3, none⟩ = some (.slice (some ⟨g', o', none⟩) m d) ∧ w'.cell? ⟨g', o' + j * 5, none⟩ = some (I y.ia))) := fun w' hw => by
            have hx := ext_trans hbi hw
            exact ⟨ck hw q0, ck hx C0.out, ck hx C1.out, ck hx C2.out, ck hw d3, ck hx b0⟩
          clear b0 b1 b2 b3 b4
          obtain ⟨li, Hli⟩ : ∃ li, Hid (li = hopsTo k x l0 j) := ⟨_, rfl⟩
          have hlen : li.length ≤ 1048576 := by rw [Hli.out]; exact Hbd.out j hj
          have Hnx : Hid (hopsTo k x l0 (j + 1) = addHop k x li j) := by show _ = _; rw [hopsTo_succ, Hli.out]
          rw [← Hli.out] at hOi
          obtain ⟨Av, cv, ev, _⟩ := hOi.form
          subst ev
          have hR : ∀ w' : World, Below wi.heap.size wi w' → partT.R w' [I x.kind, I x.ts, I x.beta, .slice (some ⟨g', o', none⟩) m d] x := fun w' hw => by
            have := part_mk (d := x) (A3 := some ⟨g', o', none⟩) (cA3 := d) (w := w') (by rw [← Hm.out]; exact hin.below (ext_trans hbi hw))
            rw [← Hm.out] at this
            exact this
          obtain ⟨vi, Hvi⟩ : ∃ vi, Hid (vi = partIn x j) := ⟨_, rfl⟩
          obtain ⟨vo, Hvo⟩ : ∃ vo, Hid (vo = partOut x j) := ⟨_, rfl⟩
          have HI : Hid (∀ w', Below wi.heap.size wi w' → Calls Try.prog 134 #[.agg #[I x.kind, I x.ts, I x.beta, .slice (some ⟨g', o', none⟩) m d], I j] w' fun e w'' => e = .returned (I vi) ∧ Below w'.heap.size w' w'') := fun w' hw => by
            have := spec_PartIngress x _ j w' (hR w' hw) (by rw [← Hm.out]; exact hm2) (by omega)
            rw [Int.toNat_natCast, ← Hvi.out] at this
            exact this
          have HE : Hid (∀ w', Below wi.heap.size wi w' → Calls Try.prog 133 #[.agg #[I x.kind, I x.ts, I x.beta, .slice (some ⟨g', o', none⟩) m d], I j] w' fun e w'' => e = .returned (I vo) ∧ Below w'.heap.size w' w'') := fun w' hw => by
            have := spec_PartEgress x _ j w' (hR w' hw) (by rw [← Hm.out]; exact hm2) (by omega)
            rw [Int.toNat_natCast, ← Hvo.out] at this
            exact this
          clear hR
          go_upto_region 8 with fail
          go_cut [6] (fun s6 wx => ∃ g6, s6 = .pointer (some ⟨g6, 0, none⟩) ∧ wi.heap.size ≤ g6 ∧ Below wi.heap.size wi wx ∧ wx.cell? ⟨g6, 0, none⟩ = some (I y.ia) ∧ wx.cell? ⟨g6, 1, none⟩ = some (I vi) ∧ wx.cell? ⟨g6, 2, none⟩ = some (I vo) ∧ wx.frozen? ⟨g6, 1, none⟩ = false)
          case first =>
            go_region_held3 (fun w' => w'.cell? ⟨w.heap.size, 0, none⟩ = some (.slice (some ⟨g, o, none⟩) n c) ∧ w'.cell? ⟨g, o + k * 4, none⟩ = some (I x.kind) ∧ w'.cell? ⟨g, o + k * 4 + 1, none⟩ = some (I x.ts) ∧ w'.cell? ⟨g, o + k * 4 + 2, none⟩ = some (I x.beta) ∧ w'.cell? ⟨g, o + k * 4 + 3, none⟩ = some (.slice (some ⟨g', o', none⟩) m d) ∧ w'.cell? ⟨g', o' + j * 5, none⟩ = some (I y.ia))
              (first | exact HS.out _ x2 | exact HS.out _ x1 | exact HS.out _ (Below.refl _ _).drew | exact HS.out _ (ext_alloc x2 _) | exact HS.out _ (ext_alloc x1 _) | exact HS.out _ (ext_alloc (Below.refl _ _).drew _) | exact HS.out _ (below_set (below_set (below_set x2 x1.size _) x1.size _) x1.size _) | exact HS.out _ (below_set (below_set (below_set x2 (Nat.le_refl _) _) (Nat.le_refl _) _) (Nat.le_refl _) _) | go_keep | (trace_state; fail))
              (first
                | (go_at_call 134; refine (HI.out _ ?_).mono ?_; (first | exact (Below.refl _ _).drew | exact ext_alloc (Below.refl _ _).drew _); rintro e w1 ⟨rfl, hb1⟩; have x1 : Below wi.heap.size wi w1 := (by (first | exact ext_trans (Below.refl _ wi).drew hb1 | exact ext_trans (ext_alloc (Below.refl _ wi).drew _) hb1)))
                | (go_at_call 133; refine (HE.out _ ?_).mono ?_; (first | exact x1 | exact ext_alloc x1 _); rintro e w2 ⟨rfl, hb2⟩; have x2 : Below wi.heap.size wi w2 := (by (first | exact ext_trans x1 hb2 | exact ext_trans (ext_alloc x1 _) hb2)); (first | (have T := nb3 hb2; obtain ⟨t0, t1, t2, t3, t4, t5⟩ := T) | (have T := nb3d (ext_trans hb1 hb2); obtain ⟨t0, t1, t2, t3, t4, t5⟩ := T) | skip)))
            all_goals (go_wp2_with fail; go_meet)
            all_goals (first
              | exact ⟨_, rfl, x2.size, ext_alloc x2 _, by simp, by simp, by simp, by simp⟩
              | exact ⟨_, rfl, x1.size, below_set (below_set (below_set x2 x1.size _) x1.size _) x1.size _, box3 t0 t1 t2 t4⟩
              | exact ⟨wi.heap.size, rfl, Nat.le_refl _, below_set (below_set (below_set x2 (Nat.le_refl _) _) (Nat.le_refl _) _) (Nat.le_refl _) _, box3 t0 t1 t2 t4⟩
              | trace_state)
          case rest =>
            obtain ⟨g6, rfl, hg6, hbc, t0, t1, t2, tf⟩ := hcut
            have hOc := hOi.below hbc
            have Hq0 := hid (ck hbc q0)
            have Hd3 := hid (ck hbc d3)
            have hwc := hbc.size
            have Hlo := hid fun b hb => (hOi.size_ok b hb).1
            have hgn : Hid (g6 ∉ fpi) := fun hm => by have := (hOi.size_ok _ hm).2; omega
            have Hxc := hid (ext_trans hbi hbc)
            have hlt6 : g6 < wc.heap.size := World.block_lt_of_cell? wc _ t0
            clear HS HI HE q0 d3 hbi hOi
            obtain ⟨wq, rfl⟩ : ∃ wq : World, wq = wc := ⟨_, rfl⟩
            go_upto_region 10 with fail
            go_cut [3, 7, 76] (fun s3 s7 s76 wx => s3 = .slice Av li.length cv ∧ s7 = I (li.length : Int) ∧ s76 = .bool (joinAt k x li j) ∧ ∃ nn, wx = wq.drewN nn)
            case first =>
              rcases Nat.eq_zero_or_pos k with hk0 | hk0
              · have g1 : decide (0 < k) = false := by simp; omega
                have g1' : decide ((0 : Int) < k) = false := by simp; omega
                have hJ : Hid (joinAt k x li j = false) := by show _ = _; simp [joinAt, hk0]
                clear hk0
                go_quiet (fail)
                go_wp2_with fail
                go_meet
                exact ⟨rfl, rfl, by rw [hJ.out], _, rfl⟩
              · have g1 : decide (0 < k) = true := by simp; omega
                have g1' : decide ((0 : Int) < k) = true := by simp; omega
                rcases Nat.eq_zero_or_pos j with hj0 | hj0
                · have g2 : ((j : Int) == 0) = true := by simp; omega
                  have g2' : (j == 0) = true := by simp; omega
                  rcases Nat.eq_zero_or_pos li.length with hl0 | hl0
                  · have g3 : decide ((0 : Int) < (li.length : Int)) = false := decide_eq_false (by omega)
                    have g3' : decide (0 < li.length) = false := decide_eq_false (by omega)
                    have hJ : Hid (joinAt k x li j = false) := by show _ = _; simp [joinAt, hl0]
                    clear hj0 hl0 hk0
                    go_quiet (fail)
                    go_wp2_with fail
                    go_meet
                    exact ⟨rfl, rfl, by rw [hJ.out], _, rfl⟩
                  · obtain ⟨L, HL⟩ : ∃ L, li.length = L + 1 := ⟨li.length - 1, by omega⟩
                    obtain ⟨gs, os, qs, sl, es, hgs, hsl, s0, s1, s2⟩ := step_at (k := L) hOc.read (by omega)
                    have hL : lastOf li = sl := lastOf_at (by rw [HL]; exact hsl.out)
                    cases es
                    have g3 : decide ((0 : Int) < ((L + 1 : Nat) : Int)) = true := decide_eq_true (by omega)
                    have g3' : decide (0 < L + 1) = true := by simp
                    have hL2 : L ≤ 1048576 := by omega
                    have hL3 : L < L + 1 := Nat.lt_succ_self L
                    rw [HL] at hOc ⊢
                    have hJ : Hid (joinAt k x li j = (sl.ia == y.ia)) := by show _ = _; simp only [joinAt, hL, hopIa_at hyj.out, HL]; simp [hk0, hj0]
                    have HL' := hid HL
                    clear hj0 hk0 hl0 HL hL
                    go_quiet (fail)
                    go_wp2_with fail
                    go_meet
                    exact ⟨by rw [HL'.out], by rw [HL'.out], by rw [hJ.out], _, rfl⟩
                · have g2 : ((j : Int) == 0) = false := by simp; omega
                  have g2' : (j == 0) = false := by simp; omega
                  have hJ : Hid (joinAt k x li j = false) := by show _ = _; simp [joinAt]; omega
                  clear hj0 hk0
                  go_quiet (fail)
                  go_wp2_with fail
                  go_meet
                  exact ⟨rfl, rfl, by rw [hJ.out], _, rfl⟩
            case rest =>
              obtain ⟨rfl, rfl, rfl, nn, rfl⟩ := hcut
              cases hJ : joinAt k x li j
              · have HJ := hid hJ
                clear hJ
                go_wp2_with ((at_builtin; refine wpList_cat step_flat (.tmp 88) (.tmp 90) et_step (SlO.alloc (hOc.drewN nn) _) (lit_one (wq.drewN nn) 131 (⟨y.ia, vi, vo⟩ : Stp) 1 wq.heap.size (Nat.le_refl _) rfl #[I y.ia, I vi, I vo] (fun _ => rfl)) ?_ ?_ ?_ rfl rfl rfl rfl ?_))
                · simp; omega
                · simp [maxLen]; omega
                · have := Hxc.out.size; simp; omega
                · intro v1 w1 fp1 hO1 hfp1 hkp1
                  have hq := Hxc.out.size
                  have x1 : Below w.heap.size w w1 := (ext_alloc (below_drewN Hxc.out nn) _).trans (hkp1.below (fun b hb => by have := Hlo.out b hb; omega) (by simp; omega))
                  have pc := hkp1.ck (ck (ext_alloc1 _ _) (ck (below_drewN (Below.refl _ _) nn) Hq0.out)) (fun hm => by have := Hlo.out _ hm; omega)
                  have z1 : w.heap.size + 1 ≤ w1.heap.size := by have := hkp1.size; simp at this; omega
                  go_wp2
                  go_roundw
                  case rel => exact ⟨j + 1, by omega, by go_num, x1, z1, pc, fp1, by rw [Hnx.out, addHop_new HJ.out, hopIa_at hyj.out, ← Hvi.out, ← Hvo.out]; exact hO1⟩
                  case measure => simp [intOf]; omega
              · obtain ⟨hk0, hj0, hl0, hia⟩ : 0 < k ∧ j = 0 ∧ 0 < li.length ∧ (lastOf li).ia = hopIa x j := by
                  have := hJ
                  unfold joinAt at this
                  simp only [Bool.and_eq_true, decide_eq_true_eq, beq_iff_eq] at this
                  exact this
                obtain ⟨L, HL⟩ : ∃ L, li.length = L + 1 := ⟨li.length - 1, by omega⟩
                obtain ⟨gs, os, qs, sl, es, hgs, hsl, s0, s1, s2⟩ := step_at (k := L) hOc.read (by omega)
                have hL : lastOf li = sl := lastOf_at (by rw [HL]; exact hsl.out)
                obtain ⟨ga, ca, ea, hga, hgb, hgc, hgd, hgf⟩ := hOc.addr (by omega)
                cases ea
                cases es
                rw [Nat.zero_add] at s0 s1 s2
                have hcv : L ≤ cv := by omega
                rw [hL, hopIa_at hyj.out] at hia
                have Hfin : Hid (li.take L ++ [(⟨y.ia, sl.ing, vo⟩ : Stp)] = addHop k x li j) := by
                  show _ = _
                  rw [addHop_join hJ, hL, ← Hvo.out]
                  have e := take_set li { sl with eg := vo } (by omega)
                  rw [HL] at e ⊢
                  simp only [Nat.add_sub_cancel] at e ⊢
                  rw [← e, ← hia]
                have hT : (li.take L).length = L := by rw [List.length_take]; omega
                have HL' := hid HL
                have hL2 : L ≤ 1048576 := by omega
                have hL3 : L < L + 1 := Nat.lt_succ_self L
                have HJ := hid hJ
                have hne : g6 ≠ gs := fun e => hgn.out (e ▸ hga)
                rw [HL] at hOc ⊢
                have hOs : SlO stepT 131 (w.heap.size + 1) ((wq.drewN nn).setCell ⟨g6, 1, none⟩ (I sl.ing)) (.slice (some ⟨gs, 0, none⟩) (L + 1) cv) li fpi := (hOc.drewN nn).kept ((Kept.refl [g6] _).setCell (p := ⟨g6, 1, none⟩) (by simp) _) (fun b hb hm => hgn.out (by simp at hm; rw [hm] at hb; exact hb))
                obtain ⟨fpc, hOx, hsub⟩ := hOs.cut (m := L) HL'.out.symm (by omega)
                have HOx := hid hOx
                have Hsub := hid hsub
                clear hJ hj0 hk0 hl0 HL hL hia hOs hOx hsub hgf hgc hgb
                go_wp2_with ((at_builtin; refine wpList_cat step_flat (.tmp 88) (.tmp 90) et_step (SlO.alloc HOx.out _) (lit_one ((wq.drewN nn).setCell ⟨g6, 1, none⟩ (I sl.ing)) 131 (⟨y.ia, sl.ing, vo⟩ : Stp) 1 wq.heap.size (Nat.le_refl _) (by simp) #[I y.ia, I sl.ing, I vo] (fun _ => rfl)) ?_ ?_ ?_ rfl rfl rfl rfl ?_))
                · rw [hT]; simp; omega
                · rw [hT]; simp [maxLen]; omega
                · have := Hxc.out.size; simp; omega
                · intro v1 w1 fp1 hO1 hfp1 hkp1
                  have hq := Hxc.out.size
                  have x1 : Below w.heap.size w w1 := (ext_alloc (ext_set (below_drewN Hxc.out nn) (by omega) _) _).trans (hkp1.below (fun b hb => by have := Hlo.out b (Hsub.out b hb); omega) (by simp; omega))
                  have pc := hkp1.ck (ck (ext_alloc1 _ _) (((Kept.refl [g6] (wq.drewN nn)).setCell (p := ⟨g6, 1, none⟩) (by simp) (I sl.ing)).ck (ck (below_drewN (Below.refl _ _) nn) Hq0.out) (by simp; omega))) (fun hm => by have := Hlo.out _ (Hsub.out _ hm); omega)
                  have z1 : w.heap.size + 1 ≤ w1.heap.size := by have := hkp1.size; simp at this; omega
                  go_wp2
                  go_roundw
                  case rel => exact ⟨j + 1, by omega, by go_num, x1, z1, pc, fp1, by rw [Hnx.out, ← Hfin.out]; exact hO1⟩
                  case measure => simp [intOf]; omega
        · have hjm : j = m := by omega
          subst hjm
          go_wp2
          go_roundw
          case rel => exact ⟨k + 1, by omega, by go_num, hbi, hs2, q0, fpi, by rw [hsuc.out]; exact hOi⟩
          case measure => simp [intOf]; omega
    · have hkn : k = n := by omega
      subst hkn
      rw [H.out] at hO
      obtain ⟨l, Hl⟩ : ∃ l, Hid (l = rawSteps p p.length) := ⟨_, rfl⟩
      have Hps : Hid (pathSteps p = cutLast (cutFirst l)) := by show _ = _; rw [Hl.out]; rfl
      have hlen : l.length ≤ 1048576 := by rw [Hl.out]; exact Nat.le_trans (rawSteps_bound _ _) Hz.out
      rw [← Hl.out] at hO
      obtain ⟨Av, cv, ev, _⟩ := hO.form
      subst ev
      rcases Nat.eq_zero_or_pos l.length with hl0 | hl0
      · have hlz : l = [] := List.length_eq_zero_iff.1 hl0
        subst hlz
        go_wp2
        go_ret
        exact ⟨_, fp, rfl, by rw [Hps.out]; exact hO.mono (by omega), hb⟩
      · obtain ⟨L, HL⟩ : ∃ L, l.length = L + 1 := ⟨l.length - 1, by omega⟩
        have hL2 : L ≤ 1048576 := by omega
        obtain ⟨g, ca, ea, hga, hgb, hgc, hgd, hgf⟩ := hO.addr (by omega)
        cases ea
        have f0 := hgf 0
        have f1 := hgf 1
        have f2 := hgf 2
        obtain ⟨g1, o1, q1, sf, e1, _, hsf, r0, r1, r2⟩ := step_at (k := 0) hO.read (by omega)
        cases e1
        simp only [Nat.zero_mul, Nat.zero_add, Nat.add_zero] at r0 r1 r2
        have hO1 := put3 (i := 0) hO rfl hsf.out sf.ia 0 sf.eg
        simp only [Nat.zero_mul, Nat.zero_add] at hO1
        have e2 : l.set 0 (⟨sf.ia, 0, sf.eg⟩ : Stp) = cutFirst l := by unfold cutFirst; rw [firstOf_at hsf.out]
        rw [e2] at hO1
        have hcl : (cutFirst l).length = l.length := by unfold cutFirst; simp
        obtain ⟨W1, HW1⟩ : ∃ W1, Hid (W1 = ((wo.setCell ⟨g, 0, none⟩ (I sf.ia)).setCell ⟨g, 1, none⟩ (I 0)).setCell ⟨g, 2, none⟩ (I sf.eg)) := ⟨_, rfl⟩
        rw [← HW1.out] at hO1
        have hgw : w.heap.size ≤ g := by omega
        have X1 : Below w.heap.size w W1 := by rw [HW1.out]; exact ext_set (ext_set (ext_set hb hgw _) hgw _) hgw _
        obtain ⟨g2, o2, q2, sg, e2', _, hsg, t0, t1, t2⟩ := step_at (k := L) hO1.read (by omega)
        rw [hcl] at e2'
        cases e2'
        rw [Nat.zero_add] at t0 t1 t2
        have hO2 := put3 (i := L) hO1 hcl.symm hsg.out sg.ia sg.ing 0
        have e3 : (cutFirst l).set L (⟨sg.ia, sg.ing, 0⟩ : Stp) = cutLast (cutFirst l) := by
          have hh : (cutFirst l).length - 1 = L := by omega
          unfold cutLast
          rw [lastOf_at (by rw [hh]; exact hsg.out), hh]
        rw [e3, ← Hps.out] at hO2
        obtain ⟨g3, c3, e4, _, _, _, hg3, hf3⟩ := hO1.addr (by omega)
        rw [hcl] at e4
        cases e4
        have k0 := hf3 (L * 3)
        have k1 := hf3 (L * 3 + 1)
        have k2 := hf3 (L * 3 + 2)
        have hgW : g < W1.heap.size := World.block_lt_of_cell? W1 _ t0
        have hX2 := hid (ext_set (ext_set (ext_set X1 hgw (j := L * 3) (I sg.ia)) hgw (j := L * 3 + 1) (I sg.ing)) hgw (j := L * 3 + 2) (I 0))
        rw [HL] at hO hO1 hO2 ⊢
        have HO2 := hid (hO2.mono (base' := w.heap.size) (by omega))
        clear hO2 hO1 hO e2 e3 hl0
        go_upto_region 18 with fail
        rw [← HW1.out]
        clear r0 r1 r2 f0 f1 f2 hgf hf3
        go_wp2
        go_ret
        refine ⟨_, fp, rfl, ?_, ?_⟩
        · exact (HO2.out.alloc _).alloc _
        · exact ext_alloc (ext_alloc hX2.out _) _

end Go.Proofs.Ytfgobdejlfojiaa
