/- The copies, comparisons and measures that the laws make: Seg. (Printed by fam.py.) -/
import Derived.Test.YtaapaafagmbkoaaRows
import Derived.Test.YtaapaafagmbkoaaPlain
import Derived.Test.YtaapaafagmbkoaaFamHop
import Derived.WalkKit
import Derived.WalkSpells
import Derived.WalkLawsBesides
import Derived.StillTailTactics
import Derived.Deep.QuietTactic
import Derived.BigQuiet
namespace Go.Proofs.Ytaapaafagmbkoaa
open Go.RowKit
set_option linter.unusedVariables false


set_option maxHeartbeats 1000000 in
theorem to_seg (d : Seg) (cs : List Value) (w : World) (h : segT.R w cs d) (hn : sz_seg d ≤ 1048576) : Calls Try.prog 46 #[.agg cs.toArray] w fun r w' => ∃ cs' fp, r = .returned (.agg cs'.toArray) ∧ segT.O w.heap.size w' cs' d fp ∧ Below w.heap.size w w' := by
  obtain ⟨A2, cA2, rfl, ⟨k2, _⟩⟩ := seg_form h
  have s2 : d.hops.length ≤ 1048576 := by unfold sz_seg at hn; omega
  go_enter Try.func46, Try.ntmps46
  go_wp2_with (fail)
  refine (to_hopS d.hops _ _ (k2.below ?e1) s2).mono ?_
  case e1 => repeat (first | refine ext_set ?_ (by first | omega | (simp; try omega)) _ | refine ext_alloc ?_ _ | refine Below.drew ?_ | assumption | exact Below.refl _ _)
  rintro e w1 ⟨v', f2, rfl, hO2, hb1⟩
  obtain ⟨B2, cB2, rfl, _⟩ := hO2.form
  have x1 : Below w.heap.size w w1 := ext_trans (by repeat (first | refine ext_set ?_ (by first | omega | (simp; try omega)) _ | refine ext_alloc ?_ _ | refine Below.drew ?_ | assumption | exact Below.refl _ _)) hb1
  have z1 := hb1.size
  try simp at z1
  have y1 : w.heap.size < w1.heap.size := by omega
  have y1' : w.heap.size + 1 < w1.heap.size := by omega
  have y1'' : w.heap.size + 1 + 1 < w1.heap.size := by omega
  obtain ⟨q1, q1'⟩ := bcell hb1
  have hO2' := hO2.mono (base' := w.heap.size + 1 + 1 + 1) (by simp)
  go_wp2_with (fail)
  have hnd : (f2).Nodup := by
    exact hO2.nodup
  refine bodyPost_ret (v := .agg #[I (d.ts), I (d.beta), .slice B2 d.hops.length cB2]) (by simp [results, Try.results46, go_sem, q1]) rfl ?_
  obtain ⟨fp, hO, _⟩ := seg_omk (d := d) (base := w.heap.size) (hO2'.mono (by omega)) hnd
  refine ⟨[I (d.ts), I (d.beta), .slice B2 d.hops.length cB2], fp, rfl, ?_, by repeat (first | refine ext_set ?_ (by first | omega | (simp; try omega)) _ | refine ext_alloc ?_ _ | refine Below.drew ?_ | assumption | exact Below.refl _ _)⟩
  refine segT.okeep _ _ _ _ _ _ hO fun b hb => ?_
  have hlo : w.heap.size + 1 + 1 + 1 ≤ b := by
    have hmem := (by assumption : ∀ b, b ∈ fp ↔ _) b
    rw [hmem] at hb
    try simp only [List.mem_append] at hb
    rcases hb with hb
    · exact (hO2'.size_ok b hb).1
  repeat rw [far_set (by omega)]

theorem eq_seg (d : Seg) (cs cs' : List Value) (w : World) (h : segT.R w cs d) (h' : segT.R w cs' d) (hn : sz_seg d ≤ 1048576) : Calls Try.prog 48 #[.agg cs.toArray, .agg cs'.toArray] w fun r w' => r = .returned (.bool true) ∧ Below w.heap.size w w' := by
  obtain ⟨A2, cA2, rfl, ⟨k2, _⟩⟩ := seg_form h
  obtain ⟨B2, cB2, rfl, ⟨j2, _⟩⟩ := seg_form h'
  have s2 : d.hops.length ≤ 1048576 := by unfold sz_seg at hn; omega
  go_enter Try.func48, Try.ntmps48
  go_wp2_with (fail)
  refine (eq_hopS d.hops _ _ _ (k2.below ?e1) (j2.below ?e1) (by omega)).mono ?_
  case e1 => repeat (first | refine ext_set ?_ (by first | omega | (simp; try omega)) _ | refine ext_alloc ?_ _ | refine Below.drew ?_ | assumption | exact Below.refl _ _)
  rintro e w1 ⟨rfl, hb1⟩
  have x1 : Below w.heap.size w w1 := ext_trans (by repeat (first | refine ext_set ?_ (by first | omega | (simp; try omega)) _ | refine ext_alloc ?_ _ | refine Below.drew ?_ | assumption | exact Below.refl _ _)) hb1
  have z1 := hb1.size
  try simp at z1
  have y1 : w.heap.size < w1.heap.size := by omega
  have y1' : w.heap.size + 1 < w1.heap.size := by omega
  obtain ⟨q1, q1'⟩ := bcell hb1
  go_wp2_with (fail)
  go_ret
  exact ⟨rfl, x1⟩

theorem szc_seg (d : Seg) (cs : List Value) (left : Int) (w : World) (h : segT.R w cs d) (hl : 0 ≤ left) (hl2 : left ≤ 1048576) (hm : lenOk_seg d) : Calls Try.prog 44 #[.agg cs.toArray, I left] w fun r w' => r = .returned (I (szI left (sz_seg d))) ∧ Below w.heap.size w w' := by
  obtain ⟨A2, cA2, rfl, ⟨k2, _⟩⟩ := seg_form h
  have n2 := hm
  unfold lenOk_seg at n2
  obtain ⟨t2, T2⟩ : ∃ t, Hid (t = d.hops.length) := ⟨_, rfl⟩
  have e1 : sz_seg d = t2 := by unfold sz_seg; rw [← T2.out]
  rw [e1]
  clear e1
  by_cases c2 : (t2 : Int) ≤ left
  · have g2 : ¬ left - (t2 : Int) < 0 := by omega
    rw [szI_yes (by omega)]
    go_enter Try.func44, Try.ntmps44
    go_wp2_with (fail)
    refine (szc_hopS _ _ _ (left) _ (by omega) (by omega) n2).mono ?_
    rintro e w1 ⟨rfl, rfl⟩
    rw [← T2.out, szI_yes (by omega)]
    go_wp2_with (fail)
    go_ret
    exact ⟨ret_int (by omega), by repeat (first | refine ext_set ?_ (by first | omega | (simp; try omega)) _ | refine ext_alloc ?_ _ | refine Below.drew ?_ | assumption | exact Below.refl _ _)⟩
  · rw [szI_no (by omega)]
    go_enter Try.func44, Try.ntmps44
    go_wp2_with (fail)
    refine (szc_hopS _ _ _ (left) _ (by omega) (by omega) n2).mono ?_
    rintro e w1 ⟨rfl, rfl⟩
    rw [← T2.out, szI_no (by omega)]
    go_wp2_with (fail)
    go_ret
    exact ⟨rfl, by repeat (first | refine ext_set ?_ (by first | omega | (simp; try omega)) _ | refine ext_alloc ?_ _ | refine Below.drew ?_ | assumption | exact Below.refl _ _)⟩

end Go.Proofs.Ytaapaafagmbkoaa
