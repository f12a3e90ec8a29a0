/- The copies, comparisons and measures that the laws make: Pkt. (Printed by fam.py.) -/
import Derived.Test.YtfgobdejlfojiaaRows
import Derived.Test.YtfgobdejlfojiaaPlain
import Derived.Test.YtfgobdejlfojiaaFamPath
import Derived.Test.YtfgobdejlfojiaaFamByte
import Derived.WalkKit
import Derived.WalkSpells
import Derived.WalkLawsBesides
import Derived.StillTailTactics
import Derived.Deep.QuietTactic
import Derived.BigQuiet
namespace Go.Proofs.Ytfgobdejlfojiaa
open Go.RowKit
set_option linter.unusedVariables false

set_option maxHeartbeats 1000000 in
theorem to_pkt (d : Pkt) (cs : List Value) (w : World) (h : pktT.R w cs d) (hn : sz_pkt d ≤ 1048576) : Calls Try.prog 29 #[.agg cs.toArray] w fun r w' => ∃ cs' fp, r = .returned (.agg cs'.toArray) ∧ pktT.O w.heap.size w' cs' d fp ∧ Below w.heap.size w w' := by
  obtain ⟨A3, cA3, A9, cA9, rfl, ⟨k3, _⟩, ⟨k9, _⟩⟩ := pkt_form h
  have s3 : sz_path d.path ≤ 1048576 := by unfold sz_pkt at hn; omega
  have s9 : d.pay.length ≤ 1048576 := by unfold sz_pkt at hn; omega
  go_enter Try.func29, Try.ntmps29
  go_wp2_with (fail)
  refine (to_path d.path _ _ (path_mk (k3.below ?e1)) s3).mono ?_
  case e1 => repeat (first | refine ext_set ?_ (by first | omega | (simp; try omega)) _ | refine ext_alloc ?_ _ | refine Below.drew ?_ | assumption | exact Below.refl _ _)
  rintro e w1 ⟨cs', fq3, rfl, hQ3, hb1⟩
  obtain ⟨B3, cB3, f3, rfl, hO3, hfq3, hnq3⟩ := path_oform hQ3
  have HQ3 := hid hfq3
  clear hfq3 hQ3
  have x1 : Below w.heap.size w w1 := ext_trans (by repeat (first | refine ext_set ?_ (by first | omega | (simp; try omega)) _ | refine ext_alloc ?_ _ | refine Below.drew ?_ | assumption | exact Below.refl _ _)) hb1
  have z1 := hb1.size
  try simp at z1
  have y1 : w.heap.size < w1.heap.size := by omega
  have y1' : w.heap.size + 1 < w1.heap.size := by omega
  have y1'' : w.heap.size + 1 + 1 < w1.heap.size := by omega
  obtain ⟨q1, q1'⟩ := bcell hb1
  have hO3' := hO3.mono (base' := w.heap.size + 1 + 1 + 1) (by simp)
  go_wp2_with (fail)
  refine (to_byteS d.pay _ _ (k9.below ?e2) s9).mono ?_
  case e2 => repeat (first | refine ext_set ?_ (by first | omega | (simp; try omega)) _ | refine ext_alloc ?_ _ | refine Below.drew ?_ | assumption | exact Below.refl _ _)
  rintro e w2 ⟨v', f9, rfl, hO9, hb2⟩
  obtain ⟨B9, cB9, rfl, _⟩ := hO9.form
  have x2 : Below w.heap.size w w2 := by
    refine ext_trans ?_ hb2
    repeat (refine ext_set ?_ (by omega) _)
    first | exact x1 | (repeat (first | refine ext_set ?_ (by first | omega | (simp; try omega)) _ | refine ext_alloc ?_ _ | refine Below.drew ?_ | assumption | exact Below.refl _ _))
  have z2 := hb2.size
  try simp at z2
  have y2 : w.heap.size < w2.heap.size := by omega
  have y2' : w.heap.size + 1 < w2.heap.size := by omega
  have y2'' : w.heap.size + 1 + 1 < w2.heap.size := by omega
  obtain ⟨q2, q2'⟩ := bcell hb2
  have hO3'' : SlO partT 90 (w.heap.size + 1 + 1 + 1) w2 (.slice B3 d.path.length cB3) d.path f3 := SlO.below (by repeat (first | refine SlO.set ?_ (by first | omega | (simp; try omega)) | refine SlO.alloc ?_ _ | exact hO3')) hb2
  have hO9' := hO9.mono (base' := w.heap.size + 1 + 1 + 1) (by simp; try omega)
  go_wp2_with (fail)
  have hnd : (f3 ++ f9).Nodup := by
    refine nodup_app hO3.nodup hO9.nodup (k := w1.heap.size) (fun b hb => (hO3.size_ok b hb).2) (fun b hb => ?_)
    have := (hO9.size_ok b hb).1
    simp at this
    omega
  refine bodyPost_ret (v := .agg #[I (d.kind), I (d.src), I (d.dst), .slice B3 d.path.length cB3, I (d.pidx), I (d.hidx), I (d.beta), I (d.rid), I (d.seq), .slice B9 d.pay.length cB9]) (by simp [results, Try.results29, go_sem, q1, q2, y1']) rfl ?_
  obtain ⟨fp, hO, _⟩ := pkt_omk (d := d) (base := w.heap.size) (hO3''.mono (by omega)) (hO9'.mono (by omega)) hnd
  refine ⟨[I (d.kind), I (d.src), I (d.dst), .slice B3 d.path.length cB3, I (d.pidx), I (d.hidx), I (d.beta), I (d.rid), I (d.seq), .slice B9 d.pay.length cB9], fp, rfl, ?_, by repeat (first | refine ext_set ?_ (by first | omega | (simp; try omega)) _ | refine ext_alloc ?_ _ | refine Below.drew ?_ | assumption | exact Below.refl _ _)⟩
  refine pktT.okeep _ _ _ _ _ _ hO fun b hb => ?_
  have hlo : w.heap.size + 1 + 1 + 1 ≤ b := by
    have hmem := (by assumption : ∀ b, b ∈ fp ↔ _) b
    rw [hmem] at hb
    try simp only [List.mem_append] at hb
    rcases hb with hb | hb
    · exact (hO3''.size_ok b hb).1
    · exact (hO9'.size_ok b hb).1
  repeat rw [far_set (by omega)]

theorem eq_pkt (d : Pkt) (cs cs' : List Value) (w : World) (h : pktT.R w cs d) (h' : pktT.R w cs' d) (hn : sz_pkt d ≤ 1048576) : Calls Try.prog 31 #[.agg cs.toArray, .agg cs'.toArray] w fun r w' => r = .returned (.bool true) ∧ Below w.heap.size w w' := by
  obtain ⟨A3, cA3, A9, cA9, rfl, ⟨k3, _⟩, ⟨k9, _⟩⟩ := pkt_form h
  obtain ⟨B3, cB3, B9, cB9, rfl, ⟨j3, _⟩, ⟨j9, _⟩⟩ := pkt_form h'
  have s3 : sz_path d.path ≤ 1048576 := by unfold sz_pkt at hn; omega
  have s9 : d.pay.length ≤ 1048576 := by unfold sz_pkt at hn; omega
  go_enter Try.func31, Try.ntmps31
  go_wp2_with (fail)
  refine (eq_path d.path _ _ _ (path_mk (k3.below ?e1)) (path_mk (j3.below ?e1)) s3).mono ?_
  case e1 => repeat (first | refine ext_set ?_ (by first | omega | (simp; try omega)) _ | refine ext_alloc ?_ _ | refine Below.drew ?_ | assumption | exact Below.refl _ _)
  rintro e w1 ⟨rfl, hb1⟩
  have x1 : Below w.heap.size w w1 := ext_trans (by repeat (first | refine ext_set ?_ (by first | omega | (simp; try omega)) _ | refine ext_alloc ?_ _ | refine Below.drew ?_ | assumption | exact Below.refl _ _)) hb1
  have z1 := hb1.size
  try simp at z1
  have y1 : w.heap.size < w1.heap.size := by omega
  have y1' : w.heap.size + 1 < w1.heap.size := by omega
  obtain ⟨q1, q1'⟩ := bcell hb1
  go_wp2_with (fail)
  refine (eq_byteS d.pay _ _ _ (k9.below ?e2) (j9.below ?e2) (by omega)).mono ?_
  case e2 => repeat (first | refine ext_set ?_ (by first | omega | (simp; try omega)) _ | refine ext_alloc ?_ _ | refine Below.drew ?_ | assumption | exact Below.refl _ _)
  rintro e w2 ⟨rfl, hb2⟩
  have x2 : Below w.heap.size w w2 := ext_trans (by repeat (first | refine ext_set ?_ (by first | omega | (simp; try omega)) _ | refine ext_alloc ?_ _ | refine Below.drew ?_ | assumption | exact Below.refl _ _)) hb2
  have z2 := hb2.size
  try simp at z2
  have y2 : w.heap.size < w2.heap.size := by omega
  have y2' : w.heap.size + 1 < w2.heap.size := by omega
  obtain ⟨q2, q2'⟩ := bcell hb2
  go_wp2_with (fail)
  go_ret
  exact ⟨rfl, x2⟩

theorem szc_pkt (d : Pkt) (cs : List Value) (left : Int) (w : World) (h : pktT.R w cs d) (hl : 0 ≤ left) (hl2 : left ≤ 1048576) (hm : lenOk_pkt d) : Calls Try.prog 27 #[.agg cs.toArray, I left] w fun r w' => r = .returned (I (szI left (sz_pkt d))) ∧ Below w.heap.size w w' := by
  obtain ⟨A3, cA3, A9, cA9, rfl, ⟨k3, _⟩, ⟨k9, _⟩⟩ := pkt_form h
  obtain ⟨n3, n9⟩ := hm
  obtain ⟨t3, T3⟩ : ∃ t, Hid (t = sz_path d.path) := ⟨_, rfl⟩
  obtain ⟨t9, T9⟩ : ∃ t, Hid (t = d.pay.length) := ⟨_, rfl⟩
  have e1 : sz_pkt d = t3 + t9 := by unfold sz_pkt; rw [← T3.out, ← T9.out]
  rw [e1]
  clear e1
  by_cases c3 : (t3 : Int) ≤ left
  · have g3 : ¬ left - (t3 : Int) < 0 := by omega
    by_cases c9 : (t9 : Int) ≤ left - t3
    · have g9 : ¬ left - t3 - (t9 : Int) < 0 := by omega
      rw [szI_yes (by omega)]
      go_enter Try.func27, Try.ntmps27
      go_wp2_with (fail)
      refine (szc_path d.path _ (left) _ (path_mk (k3.below (by repeat (first | refine ext_set ?_ (by first | omega | (simp; try omega)) _ | refine ext_alloc ?_ _ | refine Below.drew ?_ | assumption | exact Below.refl _ _)))) (by omega) (by omega) n3).mono ?_
      rintro e w1 ⟨rfl, hb1⟩
      rw [← T3.out, szI_yes (by omega)]
      have x1 : Below w.heap.size w w1 := ext_trans (by repeat (first | refine ext_set ?_ (by first | omega | (simp; try omega)) _ | refine ext_alloc ?_ _ | refine Below.drew ?_ | assumption | exact Below.refl _ _)) hb1
      obtain ⟨q1, q1'⟩ := bcell hb1
      have z1 := hb1.size
      try simp at z1
      have y1 : w.heap.size < w1.heap.size := by omega
      go_wp2_with (fail)
      refine (szc_byteS _ _ _ (left - t3) _ (by omega) (by omega) n9).mono ?_
      rintro e w2 ⟨rfl, rfl⟩
      rw [← T9.out, szI_yes (by omega)]
      go_wp2_with (fail)
      go_ret
      exact ⟨ret_int (by omega), by repeat (first | refine ext_set ?_ (by first | omega | (simp; try omega)) _ | refine ext_alloc ?_ _ | refine Below.drew ?_ | assumption | exact Below.refl _ _)⟩
    · rw [szI_no (by omega)]
      go_enter Try.func27, Try.ntmps27
      go_wp2_with (fail)
      refine (szc_path d.path _ (left) _ (path_mk (k3.below (by repeat (first | refine ext_set ?_ (by first | omega | (simp; try omega)) _ | refine ext_alloc ?_ _ | refine Below.drew ?_ | assumption | exact Below.refl _ _)))) (by omega) (by omega) n3).mono ?_
      rintro e w1 ⟨rfl, hb1⟩
      rw [← T3.out, szI_yes (by omega)]
      have x1 : Below w.heap.size w w1 := ext_trans (by repeat (first | refine ext_set ?_ (by first | omega | (simp; try omega)) _ | refine ext_alloc ?_ _ | refine Below.drew ?_ | assumption | exact Below.refl _ _)) hb1
      obtain ⟨q1, q1'⟩ := bcell hb1
      have z1 := hb1.size
      try simp at z1
      have y1 : w.heap.size < w1.heap.size := by omega
      go_wp2_with (fail)
      refine (szc_byteS _ _ _ (left - t3) _ (by omega) (by omega) n9).mono ?_
      rintro e w2 ⟨rfl, rfl⟩
      rw [← T9.out, szI_no (by omega)]
      go_wp2_with (fail)
      go_ret
      exact ⟨rfl, by repeat (first | refine ext_set ?_ (by first | omega | (simp; try omega)) _ | refine ext_alloc ?_ _ | refine Below.drew ?_ | assumption | exact Below.refl _ _)⟩
  · rw [szI_no (by omega)]
    go_enter Try.func27, Try.ntmps27
    go_wp2_with (fail)
    refine (szc_path d.path _ (left) _ (path_mk (k3.below (by repeat (first | refine ext_set ?_ (by first | omega | (simp; try omega)) _ | refine ext_alloc ?_ _ | refine Below.drew ?_ | assumption | exact Below.refl _ _)))) (by omega) (by omega) n3).mono ?_
    rintro e w1 ⟨rfl, hb1⟩
    rw [← T3.out, szI_no (by omega)]
    have x1 : Below w.heap.size w w1 := ext_trans (by repeat (first | refine ext_set ?_ (by first | omega | (simp; try omega)) _ | refine ext_alloc ?_ _ | refine Below.drew ?_ | assumption | exact Below.refl _ _)) hb1
    obtain ⟨q1, q1'⟩ := bcell hb1
    have z1 := hb1.size
    try simp at z1
    have y1 : w.heap.size < w1.heap.size := by omega
    go_wp2_with (fail)
    go_ret
    exact ⟨rfl, by repeat (first | refine ext_set ?_ (by first | omega | (simp; try omega)) _ | refine ext_alloc ?_ _ | refine Below.drew ?_ | assumption | exact Below.refl _ _)⟩

end Go.Proofs.Ytfgobdejlfojiaa
