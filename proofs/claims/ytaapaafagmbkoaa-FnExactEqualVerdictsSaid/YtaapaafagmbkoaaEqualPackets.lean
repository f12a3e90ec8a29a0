/- EqualBytes, EqualPackets of the program and of the reference. (Printed by eqpk.py.) -/
import Derived.Test.YtaapaafagmbkoaaEqualPaths
import Derived.Test.YtaapaafagmbkoaaMemB
import Derived.Laws.IdiomStrings
import Derived.Laws.BytesArg
namespace Go.Proofs.Ytaapaafagmbkoaa
open Go.RowKit
set_option linter.unusedVariables false

/-- 'string(b)'. -/
theorem bytes_str {w : World} {A : Option Addr} {c : Nat} {l : List UInt8} (h : SlR byteT w (.slice A l.length c) l) : (convert 46 9 (.slice A l.length c)).run Try.prog w = .ok (.string ⟨l.toArray⟩) w := by
  cases A with
  | none =>
    have hl : l = [] := by
      cases l with
      | nil => rfl
      | cons x t => obtain ⟨g, o, c', x, e, _⟩ := byte_at (k := 0) h (by simp); cases e
    subst hl
    exact run_convert_bytes_nil w _ _ Try.underlying46 Try.underlying5 _ _ _ Try.underlying9
  | some ad =>
    refine run_convert_bytes_back w _ _ _ ad c l Try.underlying46 Try.underlying5 Try.underlying9 fun j hj => ?_
    obtain ⟨g, o, c', x, e, _, hx, hc⟩ := byte_at (k := j) h hj
    cases e
    have : x = l[j] := by have := hx.out; rw [List.getElem?_eq_getElem hj] at this; injection this with this; exact this.symm
    rw [Addr.add_lit, hc, this]
theorem str_eq (a b : List UInt8) : (a == b) = decide (a = b) := by
  by_cases h : a = b
  · subst h; simp
  · simp [h]

theorem impl_EqualBytes (a b : List UInt8) (v u : Value) (w : World) (h : SlR byteT w v a) (h' : SlR byteT w u b) :
    Calls Try.prog 138 #[v, u] w fun e w' => e = .returned (.bool (decide (a = b))) ∧ w = w' := by
  obtain ⟨A, c, rfl, _⟩ := h.form
  obtain ⟨B, d, rfl, _⟩ := h'.form
  have h1 := bytes_str h
  have h2 := bytes_str h'
  have h3 := hid (str_eq a b)
  go_enter Try.func138, Try.ntmps138
  go_wp2_with (fail)
  go_ret
  exact ⟨by rw [← h3.out]; rfl, rfl⟩
theorem spec_EqualBytes (a b : List UInt8) (v u : Value) (w : World) (h : SlR byteT w v a) (h' : SlR byteT w u b) :
    Calls Try.prog 136 #[v, u] w fun e w' => e = .returned (.bool (decide (a = b))) ∧ w = w' := by
  obtain ⟨A, c, rfl, _⟩ := h.form
  obtain ⟨B, d, rfl, _⟩ := h'.form
  have h1 := bytes_str h
  have h2 := bytes_str h'
  have h3 := hid (str_eq a b)
  go_enter Try.func136, Try.ntmps136
  go_wp2_with (fail)
  go_ret
  exact ⟨by rw [← h3.out]; rfl, rfl⟩

theorem pkt_eq_iff (a b : Pkt) : a = b ↔ a.kind = b.kind ∧ a.src = b.src ∧ a.dst = b.dst ∧ a.path = b.path ∧ a.pidx = b.pidx ∧ a.hidx = b.hidx ∧ a.beta = b.beta ∧ a.rid = b.rid ∧ a.seq = b.seq ∧ a.pay = b.pay := by
  cases a; cases b; simp

set_option maxRecDepth 100000 in
set_option maxHeartbeats 20000000 in
theorem impl_EqualPackets (a : Pkt) (cs : List Value) (b : Pkt) (ds : List Value) (w : World) (h : pktT.R w cs a) (hz : sz_pkt a ≤ 1048576) (hl : lenOk_pkt a) (hg : rng_pkt a) (h' : pktT.R w ds b) (hz' : sz_pkt b ≤ 1048576) (hl' : lenOk_pkt b) (hg' : rng_pkt b) :
    Calls Try.prog 87 #[.agg cs.toArray, .agg ds.toArray] w fun e w' => e = .returned (.bool (decide (a = b))) ∧ Below w.heap.size w w' := by
  obtain ⟨A3, c3, A9, c9, rfl, ⟨h3, m3⟩, ⟨h9, _⟩⟩ := pkt_form h
  obtain ⟨B3, d3, B9, d9, rfl, ⟨k3, n3⟩, ⟨k9, _⟩⟩ := pkt_form h'
  have hs : sz_path a.path ≤ 1048576 := by unfold sz_pkt at hz; omega
  have hs' : sz_path b.path ≤ 1048576 := by unfold sz_pkt at hz'; omega
  have HP := hid fun w' (hw : Below w.heap.size w w') => impl_EqualPaths a.path [.slice A3 a.path.length c3] b.path [.slice B3 b.path.length d3] w' (path_mk (h3.below hw)) hs hl.1 hg.2.2.2.1 (path_mk (k3.below hw)) hs' hl'.1 hg'.2.2.2.1
  have hd := pkt_eq_iff a b
  obtain ⟨r, Hr⟩ : ∃ r, Hid (r = decide (a = b)) := ⟨_, rfl⟩
  rw [← Hr.out]
  obtain ⟨W, HW⟩ : ∃ W, Hid (W = (w.alloc (.cells #[I a.kind, I a.src, I a.dst, .slice A3 a.path.length c3, I a.pidx, I a.hidx, I a.beta, I a.rid, I a.seq, .slice A9 a.pay.length c9] 54)).alloc (.cells #[I b.kind, I b.src, I b.dst, .slice B3 b.path.length d3, I b.pidx, I b.hidx, I b.beta, I b.rid, I b.seq, .slice B9 b.pay.length d9] 54)) := ⟨_, rfl⟩
  have x0 : Below w.heap.size w W := by rw [HW.out]; exact ext_alloc (ext_alloc1 _ _) _
  have a4_ := hid (show W.cell? ⟨w.heap.size, 4, none⟩ = some (I a.pidx) by rw [HW.out]; simp)
  have a5_ := hid (show W.cell? ⟨w.heap.size, 5, none⟩ = some (I a.hidx) by rw [HW.out]; simp)
  have a6_ := hid (show W.cell? ⟨w.heap.size, 6, none⟩ = some (I a.beta) by rw [HW.out]; simp)
  have a7_ := hid (show W.cell? ⟨w.heap.size, 7, none⟩ = some (I a.rid) by rw [HW.out]; simp)
  have a8_ := hid (show W.cell? ⟨w.heap.size, 8, none⟩ = some (I a.seq) by rw [HW.out]; simp)
  have a9_ := hid (show W.cell? ⟨w.heap.size, 9, none⟩ = some (.slice A9 a.pay.length c9) by rw [HW.out]; simp)
  have b4_ := hid (show W.cell? ⟨w.heap.size + 1, 4, none⟩ = some (I b.pidx) by rw [HW.out]; simp)
  have b5_ := hid (show W.cell? ⟨w.heap.size + 1, 5, none⟩ = some (I b.hidx) by rw [HW.out]; simp)
  have b6_ := hid (show W.cell? ⟨w.heap.size + 1, 6, none⟩ = some (I b.beta) by rw [HW.out]; simp)
  have b7_ := hid (show W.cell? ⟨w.heap.size + 1, 7, none⟩ = some (I b.rid) by rw [HW.out]; simp)
  have b8_ := hid (show W.cell? ⟨w.heap.size + 1, 8, none⟩ = some (I b.seq) by rw [HW.out]; simp)
  have b9_ := hid (show W.cell? ⟨w.heap.size + 1, 9, none⟩ = some (.slice B9 b.pay.length d9) by rw [HW.out]; simp)
  clear h h' hz hz' hl hl' hg hg' hs hs' h3 k3 m3 n3
  by_cases e0 : a.kind = b.kind
  · have f0 : (a.kind == b.kind) = true := by simp [e0]
    by_cases e1 : a.src = b.src
    · have f1 : (a.src == b.src) = true := by simp [e1]
      by_cases e2 : a.dst = b.dst
      · have f2 : (a.dst == b.dst) = true := by simp [e2]
        by_cases e3 : a.path = b.path
        · have f3 := hid (show decide (a.path = b.path) = true by simp [e3])
          by_cases e4 : a.pidx = b.pidx
          · have f4 : (a.pidx == b.pidx) = true := by simp [e4]
            by_cases e5 : a.hidx = b.hidx
            · have f5 : (a.hidx == b.hidx) = true := by simp [e5]
              by_cases e6 : a.beta = b.beta
              · have f6 : (a.beta == b.beta) = true := by simp [e6]
                by_cases e7 : a.rid = b.rid
                · have f7 : (a.rid == b.rid) = true := by simp [e7]
                  by_cases e8 : a.seq = b.seq
                  · have f8 : (a.seq == b.seq) = true := by simp [e8]
                    have HR : Hid (r = decide (a.pay = b.pay)) := by show r = _; rw [Hr.out]; simp [hd, e0, e1, e2, e3, e4, e5, e6, e7, e8]
                    clear hd e0 e1 e2 e3 e4 e5 e6 e7 e8
                    go_enter Try.func87, Try.ntmps87
                    go_wp2_with (fail)
                    rw [← HW.out]
                    refine (HP.out W x0).mono ?_
                    rintro e w1 ⟨rfl, hb1⟩
                    rw [f3.out]
                    have a4 := ck hb1 a4_.out
                    have a5 := ck hb1 a5_.out
                    have a6 := ck hb1 a6_.out
                    have a7 := ck hb1 a7_.out
                    have a8 := ck hb1 a8_.out
                    have a9 := ck hb1 a9_.out
                    have b4 := ck hb1 b4_.out
                    have b5 := ck hb1 b5_.out
                    have b6 := ck hb1 b6_.out
                    have b7 := ck hb1 b7_.out
                    have b8 := ck hb1 b8_.out
                    have b9 := ck hb1 b9_.out
                    go_wp2_with (fail)
                    refine (impl_EqualBytes a.pay b.pay _ _ _ (h9.below (ext_trans x0 hb1)) (k9.below (ext_trans x0 hb1))).mono ?_
                    rintro e w2 ⟨rfl, rfl⟩
                    rw [← HR.out]
                    go_wp2_with (fail)
                    go_ret
                    exact ⟨rfl, ext_trans x0 hb1⟩
                  · have f8 : (a.seq == b.seq) = false := by simp [e8]
                    have HR : Hid (r = false) := by show r = _; rw [Hr.out]; simp [hd, e8]
                    clear hd e0 e1 e2 e3 e4 e5 e6 e7 e8
                    go_enter Try.func87, Try.ntmps87
                    go_wp2_with (fail)
                    rw [← HW.out]
                    refine (HP.out W x0).mono ?_
                    rintro e w1 ⟨rfl, hb1⟩
                    rw [f3.out]
                    have a4 := ck hb1 a4_.out
                    have a5 := ck hb1 a5_.out
                    have a6 := ck hb1 a6_.out
                    have a7 := ck hb1 a7_.out
                    have a8 := ck hb1 a8_.out
                    have a9 := ck hb1 a9_.out
                    have b4 := ck hb1 b4_.out
                    have b5 := ck hb1 b5_.out
                    have b6 := ck hb1 b6_.out
                    have b7 := ck hb1 b7_.out
                    have b8 := ck hb1 b8_.out
                    have b9 := ck hb1 b9_.out
                    go_wp2_with (fail)
                    go_ret
                    exact ⟨by rw [HR.out]; rfl, ext_trans x0 hb1⟩
                · have f7 : (a.rid == b.rid) = false := by simp [e7]
                  have HR : Hid (r = false) := by show r = _; rw [Hr.out]; simp [hd, e7]
                  clear hd e0 e1 e2 e3 e4 e5 e6 e7
                  go_enter Try.func87, Try.ntmps87
                  go_wp2_with (fail)
                  rw [← HW.out]
                  refine (HP.out W x0).mono ?_
                  rintro e w1 ⟨rfl, hb1⟩
                  rw [f3.out]
                  have a4 := ck hb1 a4_.out
                  have a5 := ck hb1 a5_.out
                  have a6 := ck hb1 a6_.out
                  have a7 := ck hb1 a7_.out
                  have a8 := ck hb1 a8_.out
                  have a9 := ck hb1 a9_.out
                  have b4 := ck hb1 b4_.out
                  have b5 := ck hb1 b5_.out
                  have b6 := ck hb1 b6_.out
                  have b7 := ck hb1 b7_.out
                  have b8 := ck hb1 b8_.out
                  have b9 := ck hb1 b9_.out
                  go_wp2_with (fail)
                  go_ret
                  exact ⟨by rw [HR.out]; rfl, ext_trans x0 hb1⟩
              · have f6 : (a.beta == b.beta) = false := by simp [e6]
                have HR : Hid (r = false) := by show r = _; rw [Hr.out]; simp [hd, e6]
                clear hd e0 e1 e2 e3 e4 e5 e6
                go_enter Try.func87, Try.ntmps87
                go_wp2_with (fail)
                rw [← HW.out]
                refine (HP.out W x0).mono ?_
                rintro e w1 ⟨rfl, hb1⟩
                rw [f3.out]
                have a4 := ck hb1 a4_.out
                have a5 := ck hb1 a5_.out
                have a6 := ck hb1 a6_.out
                have a7 := ck hb1 a7_.out
                have a8 := ck hb1 a8_.out
                have a9 := ck hb1 a9_.out
                have b4 := ck hb1 b4_.out
                have b5 := ck hb1 b5_.out
                have b6 := ck hb1 b6_.out
                have b7 := ck hb1 b7_.out
                have b8 := ck hb1 b8_.out
                have b9 := ck hb1 b9_.out
                go_wp2_with (fail)
                go_ret
                exact ⟨by rw [HR.out]; rfl, ext_trans x0 hb1⟩
            · have f5 : (a.hidx == b.hidx) = false := by simp [e5]
              have HR : Hid (r = false) := by show r = _; rw [Hr.out]; simp [hd, e5]
              clear hd e0 e1 e2 e3 e4 e5
              go_enter Try.func87, Try.ntmps87
              go_wp2_with (fail)
              rw [← HW.out]
              refine (HP.out W x0).mono ?_
              rintro e w1 ⟨rfl, hb1⟩
              rw [f3.out]
              have a4 := ck hb1 a4_.out
              have a5 := ck hb1 a5_.out
              have a6 := ck hb1 a6_.out
              have a7 := ck hb1 a7_.out
              have a8 := ck hb1 a8_.out
              have a9 := ck hb1 a9_.out
              have b4 := ck hb1 b4_.out
              have b5 := ck hb1 b5_.out
              have b6 := ck hb1 b6_.out
              have b7 := ck hb1 b7_.out
              have b8 := ck hb1 b8_.out
              have b9 := ck hb1 b9_.out
              go_wp2_with (fail)
              go_ret
              exact ⟨by rw [HR.out]; rfl, ext_trans x0 hb1⟩
          · have f4 : (a.pidx == b.pidx) = false := by simp [e4]
            have HR : Hid (r = false) := by show r = _; rw [Hr.out]; simp [hd, e4]
            clear hd e0 e1 e2 e3 e4
            go_enter Try.func87, Try.ntmps87
            go_wp2_with (fail)
            rw [← HW.out]
            refine (HP.out W x0).mono ?_
            rintro e w1 ⟨rfl, hb1⟩
            rw [f3.out]
            have a4 := ck hb1 a4_.out
            have a5 := ck hb1 a5_.out
            have a6 := ck hb1 a6_.out
            have a7 := ck hb1 a7_.out
            have a8 := ck hb1 a8_.out
            have a9 := ck hb1 a9_.out
            have b4 := ck hb1 b4_.out
            have b5 := ck hb1 b5_.out
            have b6 := ck hb1 b6_.out
            have b7 := ck hb1 b7_.out
            have b8 := ck hb1 b8_.out
            have b9 := ck hb1 b9_.out
            go_wp2_with (fail)
            go_ret
            exact ⟨by rw [HR.out]; rfl, ext_trans x0 hb1⟩
        · have f3 := hid (show decide (a.path = b.path) = false by simp [e3])
          have HR : Hid (r = false) := by show r = _; rw [Hr.out]; simp [hd, e3]
          clear hd e0 e1 e2 e3
          go_enter Try.func87, Try.ntmps87
          go_wp2_with (fail)
          rw [← HW.out]
          refine (HP.out W x0).mono ?_
          rintro e w1 ⟨rfl, hb1⟩
          rw [f3.out]
          go_wp2_with (fail)
          go_ret
          exact ⟨by rw [HR.out]; rfl, ext_trans x0 hb1⟩
      · have f2 : (a.dst == b.dst) = false := by simp [e2]
        have HR : Hid (r = false) := by show r = _; rw [Hr.out]; simp [hd, e2]
        clear hd e0 e1 e2
        go_enter Try.func87, Try.ntmps87
        go_wp2_with (fail)
        go_ret
        exact ⟨by rw [HR.out]; rfl, ext_alloc (ext_alloc1 _ _) _⟩
    · have f1 : (a.src == b.src) = false := by simp [e1]
      have HR : Hid (r = false) := by show r = _; rw [Hr.out]; simp [hd, e1]
      clear hd e0 e1
      go_enter Try.func87, Try.ntmps87
      go_wp2_with (fail)
      go_ret
      exact ⟨by rw [HR.out]; rfl, ext_alloc (ext_alloc1 _ _) _⟩
  · have f0 : (a.kind == b.kind) = false := by simp [e0]
    have HR : Hid (r = false) := by show r = _; rw [Hr.out]; simp [hd, e0]
    clear hd e0
    go_enter Try.func87, Try.ntmps87
    go_wp2_with (fail)
    go_ret
    exact ⟨by rw [HR.out]; rfl, ext_alloc (ext_alloc1 _ _) _⟩

end Go.Proofs.Ytaapaafagmbkoaa
