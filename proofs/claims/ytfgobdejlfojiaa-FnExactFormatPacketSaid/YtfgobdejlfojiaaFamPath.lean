/- The copies, comparisons and measures that the laws make: Path. (Printed by fam.py.) -/
import Derived.Test.YtfgobdejlfojiaaRows
import Derived.Test.YtfgobdejlfojiaaPlain
import Derived.Test.YtfgobdejlfojiaaFamHop
import Derived.WalkKit
import Derived.WalkSpells
import Derived.WalkLawsBesides
import Derived.StillTailTactics
import Derived.Deep.QuietTactic
import Derived.BigQuiet
namespace Go.Proofs.Ytfgobdejlfojiaa
open Go.RowKit
set_option linter.unusedVariables false

theorem et_part : ElemT Try.prog 37 90 4 48 := ElemT.mk' Try.underlying37 (z := .agg #[I 0, I 0, I 0, .slice none 0 0]) (by kernel_rfl) rfl (by omega)

set_option maxHeartbeats 1000000 in
theorem to_part (d : Part) (cs : List Value) (w : World) (h : partT.R w cs d) (hn : sz_part d ≤ 1048576) : Calls Try.prog 137 #[.agg cs.toArray] w fun r w' => ∃ cs' fp, r = .returned (.agg cs'.toArray) ∧ partT.O w.heap.size w' cs' d fp ∧ Below w.heap.size w w' := by
  obtain ⟨A3, cA3, rfl, ⟨k3, _⟩⟩ := part_form h
  have s3 : d.hops.length ≤ 1048576 := by unfold sz_part at hn; omega
  go_enter Try.func137, Try.ntmps137
  go_wp2_with (fail)
  refine (to_hopS d.hops _ _ (k3.below ?e1) s3).mono ?_
  case e1 => repeat (first | refine ext_set ?_ (by first | omega | (simp; try omega)) _ | refine ext_alloc ?_ _ | refine Below.drew ?_ | assumption | exact Below.refl _ _)
  rintro e w1 ⟨v', f3, rfl, hO3, hb1⟩
  obtain ⟨B3, cB3, rfl, _⟩ := hO3.form
  have x1 : Below w.heap.size w w1 := ext_trans (by repeat (first | refine ext_set ?_ (by first | omega | (simp; try omega)) _ | refine ext_alloc ?_ _ | refine Below.drew ?_ | assumption | exact Below.refl _ _)) hb1
  have z1 := hb1.size
  try simp at z1
  have y1 : w.heap.size < w1.heap.size := by omega
  have y1' : w.heap.size + 1 < w1.heap.size := by omega
  have y1'' : w.heap.size + 1 + 1 < w1.heap.size := by omega
  obtain ⟨q1, q1'⟩ := bcell hb1
  have hO3' := hO3.mono (base' := w.heap.size + 1 + 1 + 1) (by simp)
  go_wp2_with (fail)
  have hnd : (f3).Nodup := by
    exact hO3.nodup
  refine bodyPost_ret (v := .agg #[I (d.kind), I (d.ts), I (d.beta), .slice B3 d.hops.length cB3]) (by simp [results, Try.results137, go_sem, q1]) rfl ?_
  obtain ⟨fp, hO, _⟩ := part_omk (d := d) (base := w.heap.size) (hO3'.mono (by omega)) hnd
  refine ⟨[I (d.kind), I (d.ts), I (d.beta), .slice B3 d.hops.length cB3], fp, rfl, ?_, by repeat (first | refine ext_set ?_ (by first | omega | (simp; try omega)) _ | refine ext_alloc ?_ _ | refine Below.drew ?_ | assumption | exact Below.refl _ _)⟩
  refine partT.okeep _ _ _ _ _ _ hO fun b hb => ?_
  have hlo : w.heap.size + 1 + 1 + 1 ≤ b := by
    have hmem := (by assumption : ∀ b, b ∈ fp ↔ _) b
    rw [hmem] at hb
    try simp only [List.mem_append] at hb
    rcases hb with hb
    · exact (hO3'.size_ok b hb).1
  repeat rw [far_set (by omega)]

theorem to_partS (l : List Part) (v : Value) (w : World) (h : SlR partT w v l) (hn : sz_parts l ≤ 1048576) : Calls Try.prog 69 #[v] w fun r w' => ∃ v' fp, r = .returned v' ∧ SlO partT 90 w.heap.size w' v' l fp ∧ Below w.heap.size w w' := by
  obtain ⟨A, c, rfl, _⟩ := h.form
  obtain ⟨n, H⟩ : ∃ n, Hid (n = l.length) := ⟨_, rfl⟩
  have Hm : Hid (∀ x ∈ l, sz_part x ≤ 1048576) := fun x hx => by have := le_sum_of_mem (List.mem_map.2 ⟨x, hx, rfl⟩ : sz_part x ∈ l.map sz_part); unfold sz_parts at hn; omega
  replace hn : l.length ≤ 1048576 := by unfold sz_parts at hn; omega
  rw [← H.out] at h hn ⊢
  obtain ⟨Z, hZ, hmk⟩ := make_rule et_part n (by omega) (by omega)
  have HZ := hid hZ
  clear hZ
  go_enter Try.func69, Try.ntmps69
  go_wp2
  go_loopw [4] (fun i wr => ∃ k : Nat, k ≤ n ∧ i = I k ∧ Below w.heap.size w wr ∧ ∃ xs, Fil partT 90 w.heap.size wr w.heap.size n (l.take k) xs) (fun i _ => n - (intOf i).toNat)
  case atStart => exact ⟨0, by omega, rfl, ext_alloc1 _ _, _, Fil.start partT 90 w Z n HZ.out (by simp only [maxLen]; omega)⟩
  case round =>
    rename_i wr
    obtain ⟨k, hk, rfl, hb, xs, hF⟩ := hrel
    clear hmk
    by_cases hlt : k < n
    · obtain ⟨g, o, c', x, A3, cA3, e, hg, hxk, k3, m3, p0, p1, p2, p3⟩ := part_at (h.below hb) (by rw [← H.out]; exact hlt)
      rw [← H.out] at e
      cases e
      have ho := hF.1
      have hw := hb.size
      have hlw : w.heap.size < wr.heap.size := (ho.lt w.heap.size rfl).2
      have f0 := ho.frozenAt (k * 4)
      have f1 := ho.frozenAt (k * 4 + 1)
      have f2 := ho.frozenAt (k * 4 + 2)
      have f3 := ho.frozenAt (k * 4 + 3)
      obtain ⟨u0, d0⟩ := own_cell ho (k * 4) (by show _ < _ * 4; omega)
      obtain ⟨u1, d1⟩ := own_cell ho (k * 4 + 1) (by show _ < _ * 4; omega)
      obtain ⟨u2, d2⟩ := own_cell ho (k * 4 + 2) (by show _ < _ * 4; omega)
      obtain ⟨u3, d3⟩ := own_cell ho (k * 4 + 3) (by show _ < _ * 4; omega)
      go_wp2_with (fail)
      refine (to_part x _ _ (part_mk k3) (Hm.out x (List.mem_of_getElem? hxk.out))).mono ?_
      rintro e w1 ⟨cs', fp, rfl, hO, hb1⟩
      obtain ⟨B3, cB3, g3, rfl, _⟩ := part_oform hO
      obtain ⟨q1, q2⟩ := bcell hb1
      go_wp2_with (fail)
      go_roundw
      case rel =>
        have hl := H.out
        have hb2 := hb.trans (hb1.mono hw)
        have hF2 := hF.step hb1 (cs := [I (x.kind), I (x.ts), I (x.beta), .slice B3 x.hops.length cB3]) (f := fp) hO hw (own_set (own_set (own_set (own_set (own_below ho hb1) (k * 4) (I (x.kind))) (k * 4 + 1) (I (x.ts))) (k * 4 + 2) (I (x.beta))) (k * 4 + 3) (.slice B3 x.hops.length cB3)) (fun b hbg => by rw [far_set hbg, far_set hbg, far_set hbg, far_set hbg]) (k := k) (by simp; omega) (fun m hm => set4_old hm) (fun j hj => set4_new ho.1 hlt hj)
        rw [← take_succ hxk.out] at hF2
        exact ⟨k + 1, by omega, by go_num, (below_set (below_set (below_set (below_set hb2 (Nat.le_refl _) _) (Nat.le_refl _) _) (Nat.le_refl _) _) (Nat.le_refl _) _), _, hF2⟩
      case measure => simp [intOf]; omega
    · go_wp2
      go_ret
      have : k = n := by omega
      subst this
      rw [H.out, List.take_length] at hF
      obtain ⟨fp, hO⟩ := hF.done rfl
      exact ⟨_, fp, rfl, by rw [H.out]; exact hO, hb⟩

set_option maxHeartbeats 1000000 in
theorem to_path (d : Path) (cs : List Value) (w : World) (h : pathT.R w cs d) (hn : sz_path d ≤ 1048576) : Calls Try.prog 19 #[.agg cs.toArray] w fun r w' => ∃ cs' fp, r = .returned (.agg cs'.toArray) ∧ pathT.O w.heap.size w' cs' d fp ∧ Below w.heap.size w w' := by
  obtain ⟨A0, cA0, rfl, ⟨k0, _⟩⟩ := path_form h
  have s0 : sz_parts d ≤ 1048576 := by unfold sz_path at hn; omega
  go_enter Try.func19, Try.ntmps19
  go_wp2_with (fail)
  refine (to_partS d _ _ (k0.below ?e1) s0).mono ?_
  case e1 => repeat (first | refine ext_set ?_ (by first | omega | (simp; try omega)) _ | refine ext_alloc ?_ _ | refine Below.drew ?_ | assumption | exact Below.refl _ _)
  rintro e w1 ⟨v', f0, rfl, hO0, hb1⟩
  obtain ⟨B0, cB0, rfl, _⟩ := hO0.form
  have x1 : Below w.heap.size w w1 := ext_trans (by repeat (first | refine ext_set ?_ (by first | omega | (simp; try omega)) _ | refine ext_alloc ?_ _ | refine Below.drew ?_ | assumption | exact Below.refl _ _)) hb1
  have z1 := hb1.size
  try simp at z1
  have y1 : w.heap.size < w1.heap.size := by omega
  have y1' : w.heap.size + 1 < w1.heap.size := by omega
  have y1'' : w.heap.size + 1 + 1 < w1.heap.size := by omega
  obtain ⟨q1, q1'⟩ := bcell hb1
  have hO0' := hO0.mono (base' := w.heap.size + 1 + 1 + 1) (by simp)
  go_wp2_with (fail)
  have hnd : (f0).Nodup := by
    exact hO0.nodup
  refine bodyPost_ret (v := .agg #[.slice B0 d.length cB0]) (by simp [results, Try.results19, go_sem, q1]) rfl ?_
  obtain ⟨fp, hO, _⟩ := path_omk (d := d) (base := w.heap.size) (hO0'.mono (by omega)) hnd
  refine ⟨[.slice B0 d.length cB0], fp, rfl, ?_, by repeat (first | refine ext_set ?_ (by first | omega | (simp; try omega)) _ | refine ext_alloc ?_ _ | refine Below.drew ?_ | assumption | exact Below.refl _ _)⟩
  refine pathT.okeep _ _ _ _ _ _ hO fun b hb => ?_
  have hlo : w.heap.size + 1 + 1 + 1 ≤ b := by
    have hmem := (by assumption : ∀ b, b ∈ fp ↔ _) b
    rw [hmem] at hb
    try simp only [List.mem_append] at hb
    rcases hb with hb
    · exact (hO0'.size_ok b hb).1
  repeat rw [far_set (by omega)]

theorem eq_part (d : Part) (cs cs' : List Value) (w : World) (h : partT.R w cs d) (h' : partT.R w cs' d) (hn : sz_part d ≤ 1048576) : Calls Try.prog 145 #[.agg cs.toArray, .agg cs'.toArray] w fun r w' => r = .returned (.bool true) ∧ Below w.heap.size w w' := by
  obtain ⟨A3, cA3, rfl, ⟨k3, _⟩⟩ := part_form h
  obtain ⟨B3, cB3, rfl, ⟨j3, _⟩⟩ := part_form h'
  have s3 : d.hops.length ≤ 1048576 := by unfold sz_part at hn; omega
  go_enter Try.func145, Try.ntmps145
  go_wp2_with (fail)
  refine (eq_hopS d.hops _ _ _ (k3.below ?e1) (j3.below ?e1) (by omega)).mono ?_
  case e1 => repeat (first | refine ext_set ?_ (by first | omega | (simp; try omega)) _ | refine ext_alloc ?_ _ | refine Below.drew ?_ | assumption | exact Below.refl _ _)
  rintro e w1 ⟨rfl, hb1⟩
  have x1 : Below w.heap.size w w1 := ext_trans (by repeat (first | refine ext_set ?_ (by first | omega | (simp; try omega)) _ | refine ext_alloc ?_ _ | refine Below.drew ?_ | assumption | exact Below.refl _ _)) hb1
  have z1 := hb1.size
  try simp at z1
  have y1 : w.heap.size < w1.heap.size := by omega
  have y1' : w.heap.size + 1 < w1.heap.size := by omega
  obtain ⟨q1, q1'⟩ := bcell hb1
  go_wp2_with (fail)
  go_ret
  exact ⟨rfl, x1⟩

set_option maxRecDepth 100000 in
theorem eq_partS (l : List Part) (v u : Value) (w : World) (h : SlR partT w v l) (h' : SlR partT w u l) (hn : sz_parts l ≤ 1048576) : Calls Try.prog 75 #[v, u] w fun r w' => r = .returned (.bool true) ∧ Below w.heap.size w w' := by
  obtain ⟨A, c, rfl, _⟩ := h.form
  obtain ⟨A', c', rfl, _⟩ := h'.form
  obtain ⟨n, H⟩ : ∃ n, Hid (n = l.length) := ⟨_, rfl⟩
  have Hm : Hid (∀ x ∈ l, sz_part x ≤ 1048576) := fun x hx => by have := le_sum_of_mem (List.mem_map.2 ⟨x, hx, rfl⟩ : sz_part x ∈ l.map sz_part); unfold sz_parts at hn; omega
  replace hn : l.length ≤ 1048576 := by unfold sz_parts at hn; omega
  rw [← H.out] at h h' hn ⊢
  go_enter Try.func75, Try.ntmps75
  go_wp2
  go_loopw [5] (fun i wr => ∃ k : Nat, k ≤ n ∧ i = I k ∧ Below w.heap.size w wr) (fun i _ => n - (intOf i).toNat)
  case atStart => exact ⟨0, by omega, rfl, Below.refl _ _⟩
  case round =>
    rename_i wr
    obtain ⟨k, hk, rfl, hb⟩ := hrel
    by_cases hlt : k < n
    · obtain ⟨g, o, cc, x, A3, cA3, e, hg, hxk, k3, m3, p0, p1, p2, p3⟩ := part_at (h.below hb) (by rw [← H.out]; exact hlt)
      obtain ⟨g', o', cc', x', A3', cA3', e', hg', hxk', k3', m3', p0', p1', p2', p3'⟩ := part_at (h'.below hb) (by rw [← H.out]; exact hlt)
      obtain rfl : x' = x := by have h1 := hxk.out; have h2 := hxk'.out; rw [h1] at h2; injection h2 with h2; exact h2.symm
      rw [← H.out] at e e'
      cases e
      cases e'
      go_wp2
      go_still_tail 8, (by kernel_rfl)
      go_wp2_with (fail)
      refine (eq_part x' _ _ _ (part_mk (k3.below (below_drew _))) (part_mk (k3'.below (below_drew _))) (Hm.out _ (List.mem_of_getElem? hxk.out))).mono ?_
      rintro e w1 ⟨rfl, hb1⟩
      go_wp2_with (fail)
      go_roundw
      case rel => exact ⟨k + 1, by omega, by go_num, hb.drew.trans (hb1.mono hb.size)⟩
      case measure => simp [intOf]; omega
    · go_wp2
      go_ret
      exact ⟨rfl, hb⟩

theorem eq_path (d : Path) (cs cs' : List Value) (w : World) (h : pathT.R w cs d) (h' : pathT.R w cs' d) (hn : sz_path d ≤ 1048576) : Calls Try.prog 22 #[.agg cs.toArray, .agg cs'.toArray] w fun r w' => r = .returned (.bool true) ∧ Below w.heap.size w w' := by
  obtain ⟨A0, cA0, rfl, ⟨k0, _⟩⟩ := path_form h
  obtain ⟨B0, cB0, rfl, ⟨j0, _⟩⟩ := path_form h'
  have s0 : sz_parts d ≤ 1048576 := by unfold sz_path at hn; omega
  go_enter Try.func22, Try.ntmps22
  go_wp2_with (fail)
  refine (eq_partS d _ _ _ (k0.below ?e1) (j0.below ?e1) (by omega)).mono ?_
  case e1 => repeat (first | refine ext_set ?_ (by first | omega | (simp; try omega)) _ | refine ext_alloc ?_ _ | refine Below.drew ?_ | assumption | exact Below.refl _ _)
  rintro e w1 ⟨rfl, hb1⟩
  have x1 : Below w.heap.size w w1 := ext_trans (by repeat (first | refine ext_set ?_ (by first | omega | (simp; try omega)) _ | refine ext_alloc ?_ _ | refine Below.drew ?_ | assumption | exact Below.refl _ _)) hb1
  have z1 := hb1.size
  try simp at z1
  have y1 : w.heap.size < w1.heap.size := by omega
  have y1' : w.heap.size + 1 < w1.heap.size := by omega
  obtain ⟨q1, q1'⟩ := bcell hb1
  go_wp2_with (fail)
  go_ret
  exact ⟨rfl, x1⟩

theorem szc_part (d : Part) (cs : List Value) (left : Int) (w : World) (h : partT.R w cs d) (hl : 0 ≤ left) (hl2 : left ≤ 1048576) (hm : lenOk_part d) : Calls Try.prog 127 #[.agg cs.toArray, I left] w fun r w' => r = .returned (I (szI left (sz_part d))) ∧ Below w.heap.size w w' := by
  obtain ⟨A3, cA3, rfl, ⟨k3, _⟩⟩ := part_form h
  have n3 := hm
  unfold lenOk_part at n3
  obtain ⟨t3, T3⟩ : ∃ t, Hid (t = d.hops.length) := ⟨_, rfl⟩
  have e1 : sz_part d = t3 := by unfold sz_part; rw [← T3.out]
  rw [e1]
  clear e1
  by_cases c3 : (t3 : Int) ≤ left
  · have g3 : ¬ left - (t3 : Int) < 0 := by omega
    rw [szI_yes (by omega)]
    go_enter Try.func127, Try.ntmps127
    go_wp2_with (fail)
    refine (szc_hopS _ _ _ (left) _ (by omega) (by omega) n3).mono ?_
    rintro e w1 ⟨rfl, rfl⟩
    rw [← T3.out, szI_yes (by omega)]
    go_wp2_with (fail)
    go_ret
    exact ⟨ret_int (by omega), by repeat (first | refine ext_set ?_ (by first | omega | (simp; try omega)) _ | refine ext_alloc ?_ _ | refine Below.drew ?_ | assumption | exact Below.refl _ _)⟩
  · rw [szI_no (by omega)]
    go_enter Try.func127, Try.ntmps127
    go_wp2_with (fail)
    refine (szc_hopS _ _ _ (left) _ (by omega) (by omega) n3).mono ?_
    rintro e w1 ⟨rfl, rfl⟩
    rw [← T3.out, szI_no (by omega)]
    go_wp2_with (fail)
    go_ret
    exact ⟨rfl, by repeat (first | refine ext_set ?_ (by first | omega | (simp; try omega)) _ | refine ext_alloc ?_ _ | refine Below.drew ?_ | assumption | exact Below.refl _ _)⟩

theorem szc_partS (l : List Part) (v : Value) (left : Int) (w : World) (h : SlR partT w v l) (hl : 0 ≤ left) (hl2 : left ≤ 1048576) (hn : l.length ≤ 9223372036854775807) (hm : ∀ x ∈ l, lenOk_part x) : Calls Try.prog 63 #[v, I left] w fun r w' => r = .returned (I (szI left (sz_parts l))) ∧ Below w.heap.size w w' := by
  obtain ⟨A, c, rfl, _⟩ := h.form
  obtain ⟨n, H⟩ : ∃ n, Hid (n = l.length) := ⟨_, rfl⟩
  obtain ⟨ls, L⟩ : ∃ ls, Hid (ls = l.map sz_part) := ⟨_, rfl⟩
  have e1 : sz_parts l = n + ls.sum := by unfold sz_parts; rw [← H.out, ← L.out]
  rw [e1]
  rw [← H.out] at h hn ⊢
  have Hm := hid hm
  clear hm e1
  by_cases hbig : left < (n : Int)
  · rw [szI_no (by omega)]
    have h1 : left - (n : Int) < 0 := by omega
    go_enter Try.func63, Try.ntmps63
    go_wp2
    go_ret
    exact ⟨rfl, Below.refl _ _⟩
  · have h1 : ¬ left - (n : Int) < 0 := by omega
    go_enter Try.func63, Try.ntmps63
    go_wp2
    go_loopw [1, 5] (fun t i wr => ∃ k : Nat, k ≤ n ∧ i = I k ∧ t = I (left - n - (ls.take k).sum) ∧ ((ls.take k).sum : Int) ≤ left - n ∧ Below w.heap.size w wr) (fun _ i _ => n - (intOf i).toNat)
    case atStart => exact ⟨0, by omega, rfl, by simp, by simp; omega, Below.refl _ _⟩
    case round =>
      rename_i wr
      obtain ⟨k, hk, rfl, rfl, hs, hb⟩ := hrel
      by_cases hlt : k < n
      · obtain ⟨g, o, cc, x, A3, cA3, e, hg, hxk, k3, m3, p0, p1, p2, p3⟩ := part_at (h.below hb) (by rw [← H.out]; exact hlt)
        rw [← H.out] at e
        cases e
        have hx1 := Hm.out x (List.mem_of_getElem? hxk.out)
        have hS : Hid ((ls.take (k + 1)).sum = (ls.take k).sum + sz_part x) := sum_take_succ (by rw [L.out, List.getElem?_map, hxk.out]; rfl)
        have hC := hid (szc_part x _ (left - n - (ls.take k).sum) wr (part_mk k3) (by omega) (by omega) hx1)
        obtain ⟨s, HS⟩ : ∃ s, Hid (s = (ls.take k).sum) := ⟨_, rfl⟩
        obtain ⟨t, HT⟩ : ∃ t, Hid (t = sz_part x) := ⟨_, rfl⟩
        rw [← HS.out] at hs hC ⊢
        rw [← HT.out] at hC
        by_cases hfit : (t : Int) ≤ left - n - s
        · rw [szI_yes hfit] at hC
          have h2 : ¬ left - n - s - (t : Int) < 0 := by omega
          go_wp2_with (fail)
          refine hC.out.mono ?_
          rintro e w1 ⟨rfl, hb1⟩
          go_wp2_with (fail)
          go_roundw
          case rel =>
            have h3 := hS.out
            have h4 := HS.out
            have h5 := HT.out
            exact ⟨k + 1, by omega, by go_num, by rw [h3, ← h4, ← h5]; congr 1; omega, by omega, ext_trans hb hb1⟩
          case measure => simp [intOf]; omega
        · rw [szI_no (by omega)] at hC
          go_wp2_with (fail)
          refine hC.out.mono ?_
          rintro e w1 ⟨rfl, hb1⟩
          go_wp2_with (fail)
          go_ret
          have h3 := hS.out
          have h4 := HS.out
          have h6 := HT.out
          have h5 := sum_take_le ls (k + 1)
          exact ⟨by rw [szI_no (by omega)]; rfl, ext_trans hb hb1⟩
      · go_wp2
        go_ret
        have hkn : k = n := by omega
        have h5 : (ls.take k).sum = ls.sum := by rw [List.take_of_length_le (by rw [L.out, List.length_map, ← H.out]; omega)]
        refine ⟨?_, hb⟩
        rw [szI_yes (by omega)]
        exact ret_int (by omega)

theorem szc_path (d : Path) (cs : List Value) (left : Int) (w : World) (h : pathT.R w cs d) (hl : 0 ≤ left) (hl2 : left ≤ 1048576) (hm : lenOk_path d) : Calls Try.prog 16 #[.agg cs.toArray, I left] w fun r w' => r = .returned (I (szI left (sz_path d))) ∧ Below w.heap.size w w' := by
  obtain ⟨A0, cA0, rfl, ⟨k0, _⟩⟩ := path_form h
  obtain ⟨n0, m0⟩ := hm
  obtain ⟨t0, T0⟩ : ∃ t, Hid (t = sz_parts d) := ⟨_, rfl⟩
  have e1 : sz_path d = t0 := by unfold sz_path; rw [← T0.out]
  rw [e1]
  clear e1
  by_cases c0 : (t0 : Int) ≤ left
  · have g0 : ¬ left - (t0 : Int) < 0 := by omega
    rw [szI_yes (by omega)]
    go_enter Try.func16, Try.ntmps16
    go_wp2_with (fail)
    refine (szc_partS d _ (left) _ (k0.below (by repeat (first | refine ext_set ?_ (by first | omega | (simp; try omega)) _ | refine ext_alloc ?_ _ | refine Below.drew ?_ | assumption | exact Below.refl _ _))) (by omega) (by omega) n0 m0).mono ?_
    rintro e w1 ⟨rfl, hb1⟩
    rw [← T0.out, szI_yes (by omega)]
    have x1 : Below w.heap.size w w1 := ext_trans (by repeat (first | refine ext_set ?_ (by first | omega | (simp; try omega)) _ | refine ext_alloc ?_ _ | refine Below.drew ?_ | assumption | exact Below.refl _ _)) hb1
    obtain ⟨q1, q1'⟩ := bcell hb1
    have z1 := hb1.size
    try simp at z1
    have y1 : w.heap.size < w1.heap.size := by omega
    go_wp2_with (fail)
    go_ret
    exact ⟨ret_int (by omega), by repeat (first | refine ext_set ?_ (by first | omega | (simp; try omega)) _ | refine ext_alloc ?_ _ | refine Below.drew ?_ | assumption | exact Below.refl _ _)⟩
  · rw [szI_no (by omega)]
    go_enter Try.func16, Try.ntmps16
    go_wp2_with (fail)
    refine (szc_partS d _ (left) _ (k0.below (by repeat (first | refine ext_set ?_ (by first | omega | (simp; try omega)) _ | refine ext_alloc ?_ _ | refine Below.drew ?_ | assumption | exact Below.refl _ _))) (by omega) (by omega) n0 m0).mono ?_
    rintro e w1 ⟨rfl, hb1⟩
    rw [← T0.out, szI_no (by omega)]
    have x1 : Below w.heap.size w w1 := ext_trans (by repeat (first | refine ext_set ?_ (by first | omega | (simp; try omega)) _ | refine ext_alloc ?_ _ | refine Below.drew ?_ | assumption | exact Below.refl _ _)) hb1
    obtain ⟨q1, q1'⟩ := bcell hb1
    have z1 := hb1.size
    try simp at z1
    have y1 : w.heap.size < w1.heap.size := by omega
    go_wp2_with (fail)
    go_ret
    exact ⟨rfl, by repeat (first | refine ext_set ?_ (by first | omega | (simp; try omega)) _ | refine ext_alloc ?_ _ | refine Below.drew ?_ | assumption | exact Below.refl _ _)⟩

end Go.Proofs.Ytfgobdejlfojiaa
