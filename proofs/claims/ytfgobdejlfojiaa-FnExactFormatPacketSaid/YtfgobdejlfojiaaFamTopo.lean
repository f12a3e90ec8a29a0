/- The copies, comparisons and measures that the laws make: Topo. (Printed by fam.py.) -/
import Derived.Test.YtfgobdejlfojiaaRows
import Derived.Test.YtfgobdejlfojiaaPlain
import Derived.WalkKit
import Derived.WalkSpells
import Derived.WalkLawsBesides
import Derived.StillTailTactics
import Derived.Deep.QuietTactic
import Derived.BigQuiet
namespace Go.Proofs.Ytfgobdejlfojiaa
open Go.RowKit
set_option linter.unusedVariables false

theorem et_asn : ElemT Try.prog 32 147 3 24 := ElemT.mk' Try.underlying32 (z := .agg #[I 0, .bool false, I 0]) (by kernel_rfl) rfl (by omega)

theorem et_link : ElemT Try.prog 33 151 5 40 := ElemT.mk' Try.underlying33 (z := .agg #[I 0, I 0, I 0, I 0, I 0]) (by kernel_rfl) rfl (by omega)

theorem to_asn (a0 : Int) (a1 : Bool) (a2 : Int) (w : World) : Calls Try.prog 135 #[.agg #[I a0, .bool a1, I a2]] w fun r w' => r = .returned (.agg #[I a0, .bool a1, I a2]) ∧ Below w.heap.size w w' := by
  go_enter Try.func135, Try.ntmps135
  go_wp2
  refine bodyPost_ret (v := .agg #[I a0, .bool a1, I a2]) (by simp [results, Try.results135, go_sem]) rfl ⟨rfl, ?_⟩
  repeat (first | refine ext_set ?_ (by first | omega | (simp; try omega)) _ | refine ext_alloc ?_ _ | refine Below.drew ?_ | assumption | exact Below.refl _ _)

theorem to_asnS (l : List ASd) (v : Value) (w : World) (h : SlR asnT w v l) (hn : l.length ≤ 1048576) : Calls Try.prog 67 #[v] w fun r w' => ∃ v' fp, r = .returned v' ∧ SlO asnT 147 w.heap.size w' v' l fp ∧ Below w.heap.size w w' := by
  obtain ⟨A, c, rfl, _⟩ := h.form
  obtain ⟨n, H⟩ : ∃ n, Hid (n = l.length) := ⟨_, rfl⟩
  rw [← H.out] at h hn ⊢
  obtain ⟨Z, hZ, hmk⟩ := make_rule et_asn n (by omega) (by omega)
  have HZ := hid hZ
  clear hZ
  go_enter Try.func67, Try.ntmps67
  go_wp2
  go_loopw [4] (fun i wr => ∃ k : Nat, k ≤ n ∧ i = I k ∧ Below w.heap.size w wr ∧ ∃ xs, Fil asnT 147 w.heap.size wr w.heap.size n (l.take k) xs) (fun i _ => n - (intOf i).toNat)
  case atStart => exact ⟨0, by omega, rfl, ext_alloc1 _ _, _, Fil.start asnT 147 w Z n HZ.out (by simp only [maxLen]; omega)⟩
  case round =>
    rename_i wr
    obtain ⟨k, hk, rfl, hb, xs, hF⟩ := hrel
    clear hmk
    by_cases hlt : k < n
    · obtain ⟨g, o, c', x, e, hg, hxk, p0, p1, p2⟩ := asn_at (h.below hb) (by rw [← H.out]; exact hlt)
      rw [← H.out] at e
      cases e
      have ho := hF.1
      have hw := hb.size
      have hlw : w.heap.size < wr.heap.size := (ho.lt w.heap.size rfl).2
      have f0 := ho.frozenAt (k * 3)
      have f1 := ho.frozenAt (k * 3 + 1)
      have f2 := ho.frozenAt (k * 3 + 2)
      obtain ⟨u0, d0⟩ := own_cell ho (k * 3) (by show _ < _ * 3; omega)
      obtain ⟨u1, d1⟩ := own_cell ho (k * 3 + 1) (by show _ < _ * 3; omega)
      obtain ⟨u2, d2⟩ := own_cell ho (k * 3 + 2) (by show _ < _ * 3; omega)
      go_wp2_with (fail)
      refine (to_asn _ _ _ _).mono ?_
      rintro e w1 ⟨rfl, hb1⟩
      obtain ⟨q1, q2⟩ := bcell hb1
      go_wp2_with (fail)
      go_roundw
      case rel =>
        have hl := H.out
        have hb2 := hb.trans (hb1.mono hw)
        have hF2 := hF.step hb1 (cs := [I (x.isd), .bool x.core, I (x.key)]) (f := []) ⟨rfl, rfl⟩ hw (own_set (own_set (own_set (own_below ho hb1) (k * 3) (I (x.isd))) (k * 3 + 1) (.bool x.core)) (k * 3 + 2) (I (x.key))) (fun b hbg => by rw [far_set hbg, far_set hbg, far_set hbg]) (k := k) (by simp; omega) (fun m hm => set3_old hm) (fun j hj => set3_new ho.1 hlt hj)
        rw [← take_succ hxk.out] at hF2
        exact ⟨k + 1, by omega, by go_num, (below_set (below_set (below_set hb2 (Nat.le_refl _) _) (Nat.le_refl _) _) (Nat.le_refl _) _), _, hF2⟩
      case measure => simp [intOf]; omega
    · go_wp2
      go_ret
      have : k = n := by omega
      subst this
      rw [H.out, List.take_length] at hF
      obtain ⟨fp, hO⟩ := hF.done rfl
      exact ⟨_, fp, rfl, by rw [H.out]; exact hO, hb⟩

theorem to_link (a0 : Int) (a1 : Int) (a2 : Int) (a3 : Int) (a4 : Int) (w : World) : Calls Try.prog 136 #[.agg #[I a0, I a1, I a2, I a3, I a4]] w fun r w' => r = .returned (.agg #[I a0, I a1, I a2, I a3, I a4]) ∧ Below w.heap.size w w' := by
  go_enter Try.func136, Try.ntmps136
  go_wp2
  refine bodyPost_ret (v := .agg #[I a0, I a1, I a2, I a3, I a4]) (by simp [results, Try.results136, go_sem]) rfl ⟨rfl, ?_⟩
  repeat (first | refine ext_set ?_ (by first | omega | (simp; try omega)) _ | refine ext_alloc ?_ _ | refine Below.drew ?_ | assumption | exact Below.refl _ _)

theorem to_linkS (l : List Lnk) (v : Value) (w : World) (h : SlR linkT w v l) (hn : l.length ≤ 1048576) : Calls Try.prog 68 #[v] w fun r w' => ∃ v' fp, r = .returned v' ∧ SlO linkT 151 w.heap.size w' v' l fp ∧ Below w.heap.size w w' := by
  obtain ⟨A, c, rfl, _⟩ := h.form
  obtain ⟨n, H⟩ : ∃ n, Hid (n = l.length) := ⟨_, rfl⟩
  rw [← H.out] at h hn ⊢
  obtain ⟨Z, hZ, hmk⟩ := make_rule et_link n (by omega) (by omega)
  have HZ := hid hZ
  clear hZ
  go_enter Try.func68, Try.ntmps68
  go_wp2
  go_loopw [4] (fun i wr => ∃ k : Nat, k ≤ n ∧ i = I k ∧ Below w.heap.size w wr ∧ ∃ xs, Fil linkT 151 w.heap.size wr w.heap.size n (l.take k) xs) (fun i _ => n - (intOf i).toNat)
  case atStart => exact ⟨0, by omega, rfl, ext_alloc1 _ _, _, Fil.start linkT 151 w Z n HZ.out (by simp only [maxLen]; omega)⟩
  case round =>
    rename_i wr
    obtain ⟨k, hk, rfl, hb, xs, hF⟩ := hrel
    clear hmk
    by_cases hlt : k < n
    · obtain ⟨g, o, c', x, e, hg, hxk, p0, p1, p2, p3, p4⟩ := link_at (h.below hb) (by rw [← H.out]; exact hlt)
      rw [← H.out] at e
      cases e
      have ho := hF.1
      have hw := hb.size
      have hlw : w.heap.size < wr.heap.size := (ho.lt w.heap.size rfl).2
      have f0 := ho.frozenAt (k * 5)
      have f1 := ho.frozenAt (k * 5 + 1)
      have f2 := ho.frozenAt (k * 5 + 2)
      have f3 := ho.frozenAt (k * 5 + 3)
      have f4 := ho.frozenAt (k * 5 + 4)
      obtain ⟨u0, d0⟩ := own_cell ho (k * 5) (by show _ < _ * 5; omega)
      obtain ⟨u1, d1⟩ := own_cell ho (k * 5 + 1) (by show _ < _ * 5; omega)
      obtain ⟨u2, d2⟩ := own_cell ho (k * 5 + 2) (by show _ < _ * 5; omega)
      obtain ⟨u3, d3⟩ := own_cell ho (k * 5 + 3) (by show _ < _ * 5; omega)
      obtain ⟨u4, d4⟩ := own_cell ho (k * 5 + 4) (by show _ < _ * 5; omega)
      go_wp2_with (fail)
      refine (to_link _ _ _ _ _ _).mono ?_
      rintro e w1 ⟨rfl, hb1⟩
      obtain ⟨q1, q2⟩ := bcell hb1
      go_wp2_with (fail)
      go_roundw
      case rel =>
        have hl := H.out
        have hb2 := hb.trans (hb1.mono hw)
        have hF2 := hF.step hb1 (cs := [I (x.a), I (x.ai), I (x.b), I (x.bi), I (x.kind)]) (f := []) ⟨rfl, rfl⟩ hw (own_set (own_set (own_set (own_set (own_set (own_below ho hb1) (k * 5) (I (x.a))) (k * 5 + 1) (I (x.ai))) (k * 5 + 2) (I (x.b))) (k * 5 + 3) (I (x.bi))) (k * 5 + 4) (I (x.kind))) (fun b hbg => by rw [far_set hbg, far_set hbg, far_set hbg, far_set hbg, far_set hbg]) (k := k) (by simp; omega) (fun m hm => set5_old hm) (fun j hj => set5_new ho.1 hlt hj)
        rw [← take_succ hxk.out] at hF2
        exact ⟨k + 1, by omega, by go_num, (below_set (below_set (below_set (below_set (below_set hb2 (Nat.le_refl _) _) (Nat.le_refl _) _) (Nat.le_refl _) _) (Nat.le_refl _) _) (Nat.le_refl _) _), _, hF2⟩
      case measure => simp [intOf]; omega
    · go_wp2
      go_ret
      have : k = n := by omega
      subst this
      rw [H.out, List.take_length] at hF
      obtain ⟨fp, hO⟩ := hF.done rfl
      exact ⟨_, fp, rfl, by rw [H.out]; exact hO, hb⟩

set_option maxHeartbeats 1000000 in
theorem to_topo (d : Topo) (cs : List Value) (w : World) (h : topoT.R w cs d) (hn : sz_topo d ≤ 1048576) : Calls Try.prog 18 #[.agg cs.toArray] w fun r w' => ∃ cs' fp, r = .returned (.agg cs'.toArray) ∧ topoT.O w.heap.size w' cs' d fp ∧ Below w.heap.size w w' := by
  obtain ⟨A0, cA0, A1, cA1, rfl, ⟨k0, _⟩, ⟨k1, _⟩⟩ := topo_form h
  have s0 : d.ases.length ≤ 1048576 := by unfold sz_topo at hn; omega
  have s1 : d.links.length ≤ 1048576 := by unfold sz_topo at hn; omega
  go_enter Try.func18, Try.ntmps18
  go_wp2_with (fail)
  refine (to_asnS d.ases _ _ (k0.below ?e1) s0).mono ?_
  case e1 => repeat (first | refine ext_set ?_ (by first | omega | (simp; try omega)) _ | refine ext_alloc ?_ _ | refine Below.drew ?_ | assumption | exact Below.refl _ _)
  rintro e w1 ⟨v', f0, rfl, hO0, hb1⟩
  obtain ⟨B0, cB0, rfl, _⟩ := hO0.form
  have x1 : Below w.heap.size w w1 := ext_trans (by repeat (first | refine ext_set ?_ (by first | omega | (simp; try omega)) _ | refine ext_alloc ?_ _ | refine Below.drew ?_ | assumption | exact Below.refl _ _)) hb1
  have z1 := hb1.size
  try simp at z1
  have y1 : w.heap.size < w1.heap.size := by omega
  have y1' : w.heap.size + 1 < w1.heap.size := by omega
  have y1'' : w.heap.size + 1 + 1 < w1.heap.size := by omega
  obtain ⟨q1, q1'⟩ := bcell hb1
  have hO0' := hO0.mono (base' := w.heap.size + 1 + 1 + 1) (by simp)
  go_wp2_with (fail)
  refine (to_linkS d.links _ _ (k1.below ?e2) s1).mono ?_
  case e2 => repeat (first | refine ext_set ?_ (by first | omega | (simp; try omega)) _ | refine ext_alloc ?_ _ | refine Below.drew ?_ | assumption | exact Below.refl _ _)
  rintro e w2 ⟨v', f1, rfl, hO1, hb2⟩
  obtain ⟨B1, cB1, rfl, _⟩ := hO1.form
  have x2 : Below w.heap.size w w2 := by
    refine ext_trans ?_ hb2
    repeat (refine ext_set ?_ (by omega) _)
    first | exact x1 | (repeat (first | refine ext_set ?_ (by first | omega | (simp; try omega)) _ | refine ext_alloc ?_ _ | refine Below.drew ?_ | assumption | exact Below.refl _ _))
  have z2 := hb2.size
  try simp at z2
  have y2 : w.heap.size < w2.heap.size := by omega
  have y2' : w.heap.size + 1 < w2.heap.size := by omega
  have y2'' : w.heap.size + 1 + 1 < w2.heap.size := by omega
  obtain ⟨q2, q2'⟩ := bcell hb2
  have hO0'' : SlO asnT 147 (w.heap.size + 1 + 1 + 1) w2 (.slice B0 d.ases.length cB0) d.ases f0 := SlO.below (by repeat (first | refine SlO.set ?_ (by first | omega | (simp; try omega)) | refine SlO.alloc ?_ _ | exact hO0')) hb2
  have hO1' := hO1.mono (base' := w.heap.size + 1 + 1 + 1) (by simp; try omega)
  go_wp2_with (fail)
  have hnd : (f0 ++ f1).Nodup := by
    refine nodup_app hO0.nodup hO1.nodup (k := w1.heap.size) (fun b hb => (hO0.size_ok b hb).2) (fun b hb => ?_)
    have := (hO1.size_ok b hb).1
    simp at this
    omega
  refine bodyPost_ret (v := .agg #[.slice B0 d.ases.length cB0, .slice B1 d.links.length cB1]) (by simp [results, Try.results18, go_sem, q1, q2, y1']) rfl ?_
  obtain ⟨fp, hO, _⟩ := topo_omk (d := d) (base := w.heap.size) (hO0''.mono (by omega)) (hO1'.mono (by omega)) hnd
  refine ⟨[.slice B0 d.ases.length cB0, .slice B1 d.links.length cB1], fp, rfl, ?_, by repeat (first | refine ext_set ?_ (by first | omega | (simp; try omega)) _ | refine ext_alloc ?_ _ | refine Below.drew ?_ | assumption | exact Below.refl _ _)⟩
  refine topoT.okeep _ _ _ _ _ _ hO fun b hb => ?_
  have hlo : w.heap.size + 1 + 1 + 1 ≤ b := by
    have hmem := (by assumption : ∀ b, b ∈ fp ↔ _) b
    rw [hmem] at hb
    try simp only [List.mem_append] at hb
    rcases hb with hb | hb
    · exact (hO0''.size_ok b hb).1
    · exact (hO1'.size_ok b hb).1
  repeat rw [far_set (by omega)]

theorem eq_asn (a0 : Int) (a1 : Bool) (a2 : Int) (w : World) : Calls Try.prog 143 #[.agg #[I a0, .bool a1, I a2], .agg #[I a0, .bool a1, I a2]] w fun r w' => r = .returned (.bool true) ∧ Below w.heap.size w w' := by
  go_enter Try.func143, Try.ntmps143
  go_wp2
  go_ret
  exact ⟨rfl, ext_alloc (ext_alloc1 _ _) _⟩

set_option maxRecDepth 100000 in
theorem eq_asnS (l : List ASd) (v u : Value) (w : World) (h : SlR asnT w v l) (h' : SlR asnT w u l) (hn : l.length ≤ 140737488355328) : Calls Try.prog 73 #[v, u] w fun r w' => r = .returned (.bool true) ∧ Below w.heap.size w w' := by
  obtain ⟨A, c, rfl, _⟩ := h.form
  obtain ⟨A', c', rfl, _⟩ := h'.form
  obtain ⟨n, H⟩ : ∃ n, Hid (n = l.length) := ⟨_, rfl⟩
  rw [← H.out] at h h' hn ⊢
  go_enter Try.func73, Try.ntmps73
  go_wp2
  go_loopw [5] (fun i wr => ∃ k : Nat, k ≤ n ∧ i = I k ∧ Below w.heap.size w wr) (fun i _ => n - (intOf i).toNat)
  case atStart => exact ⟨0, by omega, rfl, Below.refl _ _⟩
  case round =>
    rename_i wr
    obtain ⟨k, hk, rfl, hb⟩ := hrel
    by_cases hlt : k < n
    · obtain ⟨g, o, cc, x, e, hg, hxk, p0, p1, p2⟩ := asn_at (h.below hb) (by rw [← H.out]; exact hlt)
      obtain ⟨g', o', cc', x', e', hg', hxk', p0', p1', p2'⟩ := asn_at (h'.below hb) (by rw [← H.out]; exact hlt)
      obtain rfl : x' = x := by have h1 := hxk.out; have h2 := hxk'.out; rw [h1] at h2; injection h2 with h2; exact h2.symm
      rw [← H.out] at e e'
      cases e
      cases e'
      go_wp2
      go_still_tail 8, (by kernel_rfl)
      go_wp2_with (fail)
      refine (eq_asn _ _ _ _).mono ?_
      rintro e w1 ⟨rfl, hb1⟩
      go_wp2_with (fail)
      go_roundw
      case rel => exact ⟨k + 1, by omega, by go_num, hb.drew.trans (hb1.mono hb.size)⟩
      case measure => simp [intOf]; omega
    · go_wp2
      go_ret
      exact ⟨rfl, hb⟩

theorem eq_link (a0 : Int) (a1 : Int) (a2 : Int) (a3 : Int) (a4 : Int) (w : World) : Calls Try.prog 144 #[.agg #[I a0, I a1, I a2, I a3, I a4], .agg #[I a0, I a1, I a2, I a3, I a4]] w fun r w' => r = .returned (.bool true) ∧ Below w.heap.size w w' := by
  go_enter Try.func144, Try.ntmps144
  go_wp2
  go_ret
  exact ⟨rfl, ext_alloc (ext_alloc1 _ _) _⟩

set_option maxRecDepth 100000 in
theorem eq_linkS (l : List Lnk) (v u : Value) (w : World) (h : SlR linkT w v l) (h' : SlR linkT w u l) (hn : l.length ≤ 140737488355328) : Calls Try.prog 74 #[v, u] w fun r w' => r = .returned (.bool true) ∧ Below w.heap.size w w' := by
  obtain ⟨A, c, rfl, _⟩ := h.form
  obtain ⟨A', c', rfl, _⟩ := h'.form
  obtain ⟨n, H⟩ : ∃ n, Hid (n = l.length) := ⟨_, rfl⟩
  rw [← H.out] at h h' hn ⊢
  go_enter Try.func74, Try.ntmps74
  go_wp2
  go_loopw [5] (fun i wr => ∃ k : Nat, k ≤ n ∧ i = I k ∧ Below w.heap.size w wr) (fun i _ => n - (intOf i).toNat)
  case atStart => exact ⟨0, by omega, rfl, Below.refl _ _⟩
  case round =>
    rename_i wr
    obtain ⟨k, hk, rfl, hb⟩ := hrel
    by_cases hlt : k < n
    · obtain ⟨g, o, cc, x, e, hg, hxk, p0, p1, p2, p3, p4⟩ := link_at (h.below hb) (by rw [← H.out]; exact hlt)
      obtain ⟨g', o', cc', x', e', hg', hxk', p0', p1', p2', p3', p4'⟩ := link_at (h'.below hb) (by rw [← H.out]; exact hlt)
      obtain rfl : x' = x := by have h1 := hxk.out; have h2 := hxk'.out; rw [h1] at h2; injection h2 with h2; exact h2.symm
      rw [← H.out] at e e'
      cases e
      cases e'
      go_wp2
      go_still_tail 8, (by kernel_rfl)
      go_wp2_with (fail)
      refine (eq_link _ _ _ _ _ _).mono ?_
      rintro e w1 ⟨rfl, hb1⟩
      go_wp2_with (fail)
      go_roundw
      case rel => exact ⟨k + 1, by omega, by go_num, hb.drew.trans (hb1.mono hb.size)⟩
      case measure => simp [intOf]; omega
    · go_wp2
      go_ret
      exact ⟨rfl, hb⟩

theorem eq_topo (d : Topo) (cs cs' : List Value) (w : World) (h : topoT.R w cs d) (h' : topoT.R w cs' d) (hn : sz_topo d ≤ 1048576) : Calls Try.prog 21 #[.agg cs.toArray, .agg cs'.toArray] w fun r w' => r = .returned (.bool true) ∧ Below w.heap.size w w' := by
  obtain ⟨A0, cA0, A1, cA1, rfl, ⟨k0, _⟩, ⟨k1, _⟩⟩ := topo_form h
  obtain ⟨B0, cB0, B1, cB1, rfl, ⟨j0, _⟩, ⟨j1, _⟩⟩ := topo_form h'
  have s0 : d.ases.length ≤ 1048576 := by unfold sz_topo at hn; omega
  have s1 : d.links.length ≤ 1048576 := by unfold sz_topo at hn; omega
  go_enter Try.func21, Try.ntmps21
  go_wp2_with (fail)
  refine (eq_asnS d.ases _ _ _ (k0.below ?e1) (j0.below ?e1) (by omega)).mono ?_
  case e1 => repeat (first | refine ext_set ?_ (by first | omega | (simp; try omega)) _ | refine ext_alloc ?_ _ | refine Below.drew ?_ | assumption | exact Below.refl _ _)
  rintro e w1 ⟨rfl, hb1⟩
  have x1 : Below w.heap.size w w1 := ext_trans (by repeat (first | refine ext_set ?_ (by first | omega | (simp; try omega)) _ | refine ext_alloc ?_ _ | refine Below.drew ?_ | assumption | exact Below.refl _ _)) hb1
  have z1 := hb1.size
  try simp at z1
  have y1 : w.heap.size < w1.heap.size := by omega
  have y1' : w.heap.size + 1 < w1.heap.size := by omega
  obtain ⟨q1, q1'⟩ := bcell hb1
  go_wp2_with (fail)
  refine (eq_linkS d.links _ _ _ (k1.below ?e2) (j1.below ?e2) (by omega)).mono ?_
  case e2 => repeat (first | refine ext_set ?_ (by first | omega | (simp; try omega)) _ | refine ext_alloc ?_ _ | refine Below.drew ?_ | assumption | exact Below.refl _ _)
  rintro e w2 ⟨rfl, hb2⟩
  have x2 : Below w.heap.size w w2 := ext_trans (by repeat (first | refine ext_set ?_ (by first | omega | (simp; try omega)) _ | refine ext_alloc ?_ _ | refine Below.drew ?_ | assumption | exact Below.refl _ _)) hb2
  have z2 := hb2.size
  try simp at z2
  have y2 : w.heap.size < w2.heap.size := by omega
  have y2' : w.heap.size + 1 < w2.heap.size := by omega
  obtain ⟨q2, q2'⟩ := bcell hb2
  go_wp2_with (fail)
  go_ret
  exact ⟨rfl, x2⟩

theorem szc_asnS (A : Option Addr) (n c : Nat) (left : Int) (w : World) (hl : 0 ≤ left) (hl2 : left ≤ 1048576) (hn : n ≤ 9223372036854775807) : Calls Try.prog 61 #[.slice A n c, I left] w fun r w' => r = .returned (I (szI left n)) ∧ w = w' := by
  by_cases h : (n : Int) ≤ left
  · rw [szI_yes h]
    have h1 : ¬ left - (n : Int) < 0 := by omega
    go_enter Try.func61, Try.ntmps61
    go_wp2
    go_ret
    exact ⟨rfl, rfl⟩
  · rw [szI_no (by omega)]
    have h1 : left - (n : Int) < 0 := by omega
    go_enter Try.func61, Try.ntmps61
    go_wp2
    go_ret
    exact ⟨rfl, rfl⟩

theorem szc_linkS (A : Option Addr) (n c : Nat) (left : Int) (w : World) (hl : 0 ≤ left) (hl2 : left ≤ 1048576) (hn : n ≤ 9223372036854775807) : Calls Try.prog 62 #[.slice A n c, I left] w fun r w' => r = .returned (I (szI left n)) ∧ w = w' := by
  by_cases h : (n : Int) ≤ left
  · rw [szI_yes h]
    have h1 : ¬ left - (n : Int) < 0 := by omega
    go_enter Try.func62, Try.ntmps62
    go_wp2
    go_ret
    exact ⟨rfl, rfl⟩
  · rw [szI_no (by omega)]
    have h1 : left - (n : Int) < 0 := by omega
    go_enter Try.func62, Try.ntmps62
    go_wp2
    go_ret
    exact ⟨rfl, rfl⟩

theorem szc_topo (d : Topo) (cs : List Value) (left : Int) (w : World) (h : topoT.R w cs d) (hl : 0 ≤ left) (hl2 : left ≤ 1048576) (hm : lenOk_topo d) : Calls Try.prog 15 #[.agg cs.toArray, I left] w fun r w' => r = .returned (I (szI left (sz_topo d))) ∧ Below w.heap.size w w' := by
  obtain ⟨A0, cA0, A1, cA1, rfl, ⟨k0, _⟩, ⟨k1, _⟩⟩ := topo_form h
  obtain ⟨n0, n1⟩ := hm
  obtain ⟨t0, T0⟩ : ∃ t, Hid (t = d.ases.length) := ⟨_, rfl⟩
  obtain ⟨t1, T1⟩ : ∃ t, Hid (t = d.links.length) := ⟨_, rfl⟩
  have e1 : sz_topo d = t0 + t1 := by unfold sz_topo; rw [← T0.out, ← T1.out]
  rw [e1]
  clear e1
  by_cases c0 : (t0 : Int) ≤ left
  · have g0 : ¬ left - (t0 : Int) < 0 := by omega
    by_cases c1 : (t1 : Int) ≤ left - t0
    · have g1 : ¬ left - t0 - (t1 : Int) < 0 := by omega
      rw [szI_yes (by omega)]
      go_enter Try.func15, Try.ntmps15
      go_wp2_with (fail)
      refine (szc_asnS _ _ _ (left) _ (by omega) (by omega) n0).mono ?_
      rintro e w1 ⟨rfl, rfl⟩
      rw [← T0.out, szI_yes (by omega)]
      go_wp2_with (fail)
      refine (szc_linkS _ _ _ (left - t0) _ (by omega) (by omega) n1).mono ?_
      rintro e w2 ⟨rfl, rfl⟩
      rw [← T1.out, szI_yes (by omega)]
      go_wp2_with (fail)
      go_ret
      exact ⟨ret_int (by omega), by repeat (first | refine ext_set ?_ (by first | omega | (simp; try omega)) _ | refine ext_alloc ?_ _ | refine Below.drew ?_ | assumption | exact Below.refl _ _)⟩
    · rw [szI_no (by omega)]
      go_enter Try.func15, Try.ntmps15
      go_wp2_with (fail)
      refine (szc_asnS _ _ _ (left) _ (by omega) (by omega) n0).mono ?_
      rintro e w1 ⟨rfl, rfl⟩
      rw [← T0.out, szI_yes (by omega)]
      go_wp2_with (fail)
      refine (szc_linkS _ _ _ (left - t0) _ (by omega) (by omega) n1).mono ?_
      rintro e w2 ⟨rfl, rfl⟩
      rw [← T1.out, szI_no (by omega)]
      go_wp2_with (fail)
      go_ret
      exact ⟨rfl, by repeat (first | refine ext_set ?_ (by first | omega | (simp; try omega)) _ | refine ext_alloc ?_ _ | refine Below.drew ?_ | assumption | exact Below.refl _ _)⟩
  · rw [szI_no (by omega)]
    go_enter Try.func15, Try.ntmps15
    go_wp2_with (fail)
    refine (szc_asnS _ _ _ (left) _ (by omega) (by omega) n0).mono ?_
    rintro e w1 ⟨rfl, rfl⟩
    rw [← T0.out, szI_no (by omega)]
    go_wp2_with (fail)
    go_ret
    exact ⟨rfl, by repeat (first | refine ext_set ?_ (by first | omega | (simp; try omega)) _ | refine ext_alloc ?_ _ | refine Below.drew ?_ | assumption | exact Below.refl _ _)⟩

end Go.Proofs.Ytfgobdejlfojiaa
