/- The interfaces of a path: hasInt, l9Has, numbered, InterfacesUsed, of the program and of the reference. -/
import Derived.Test.YtfgobdejlfojiaaPathStepsB
import Derived.Test.YtfgobdejlfojiaaFamInt
namespace Go.Proofs.Ytfgobdejlfojiaa
open Go.RowKit
set_option linter.unusedVariables false

theorem impl_hasInt (l : List Int) (v : Value) (x : Int) (w : World) (h : SlR intT w v l) (hn : l.length ≤ 16777216) : Calls Try.prog 79 #[v, I x] w fun e w' => e = .returned (.bool (l.contains x)) ∧ w = w' := by
  obtain ⟨A, c, rfl, _⟩ := h.form
  obtain ⟨n, H⟩ : ∃ n, Hid (n = l.length) := ⟨_, rfl⟩
  obtain ⟨r, Hr⟩ : ∃ r, Hid (r = l.contains x) := ⟨_, rfl⟩
  rw [← Hr.out]
  rw [← H.out] at h hn ⊢
  go_enter Try.func79, Try.ntmps79
  go_wp2
  go_loop [9] (fun i => ∃ k : Nat, k ≤ n ∧ i = I k ∧ (l.take k).contains x = false) (fun i => n - (intOf i).toNat)
  case atStart => exact ⟨0, by omega, rfl, rfl⟩
  case round =>
    obtain ⟨k, hk, rfl, hc⟩ := hrel
    have Hc := hid hc
    clear hc
    by_cases hlt : k < n
    · obtain ⟨g, o, q, y, e, hg, hyk, c0⟩ := int_at h (by rw [← H.out]; exact hlt)
      rw [← H.out] at e
      cases e
      cases hb : (y == x)
      · have HS : Hid ((l.take (k + 1)).contains x = false) := by
          show _ = _
          rw [take_succ hyk.out, List.contains_eq_mem, decide_eq_false_iff_not, List.mem_append, List.mem_singleton]
          have h1 := Hc.out
          rw [List.contains_eq_mem, decide_eq_false_iff_not] at h1
          have h2 : ¬ y = x := by simpa using hb
          rintro (h | h)
          · exact h1 h
          · exact h2 h.symm
        go_wp2
        go_round
        case rel => exact ⟨k + 1, by omega, by go_num, HS.out⟩
        case measure => simp [intOf]; omega
      · have HT : Hid (r = true) := by
          show _ = _
          have h2 : y = x := by simpa using hb
          rw [Hr.out, List.contains_eq_mem, decide_eq_true_eq, ← h2]
          exact List.mem_of_getElem? hyk.out
        go_wp2
        go_ret
        exact ⟨by rw [HT.out]; rfl, rfl⟩
    · have hkn : k = n := by omega
      have HT : Hid (r = false) := by
        show _ = _
        have h1 := Hc.out
        rw [List.take_of_length_le (by rw [← H.out]; omega)] at h1
        rw [Hr.out, h1]
      go_wp2
      go_ret
      exact ⟨by rw [HT.out]; rfl, rfl⟩
theorem spec_l9Has (l : List Int) (v : Value) (x : Int) (w : World) (h : SlR intT w v l) (hn : l.length ≤ 16777216) : Calls Try.prog 77 #[v, I x] w fun e w' => e = .returned (.bool (l.contains x)) ∧ w = w' := by
  obtain ⟨A, c, rfl, _⟩ := h.form
  obtain ⟨n, H⟩ : ∃ n, Hid (n = l.length) := ⟨_, rfl⟩
  obtain ⟨r, Hr⟩ : ∃ r, Hid (r = l.contains x) := ⟨_, rfl⟩
  rw [← Hr.out]
  rw [← H.out] at h hn ⊢
  go_enter Try.func77, Try.ntmps77
  go_wp2
  go_loop [5] (fun i => ∃ k : Nat, k ≤ n ∧ i = I k ∧ (l.take k).contains x = false) (fun i => n - (intOf i).toNat)
  case atStart => exact ⟨0, by omega, rfl, rfl⟩
  case round =>
    obtain ⟨k, hk, rfl, hc⟩ := hrel
    have Hc := hid hc
    clear hc
    by_cases hlt : k < n
    · obtain ⟨g, o, q, y, e, hg, hyk, c0⟩ := int_at h (by rw [← H.out]; exact hlt)
      rw [← H.out] at e
      cases e
      cases hb : (y == x)
      · have HS : Hid ((l.take (k + 1)).contains x = false) := by
          show _ = _
          rw [take_succ hyk.out, List.contains_eq_mem, decide_eq_false_iff_not, List.mem_append, List.mem_singleton]
          have h1 := Hc.out
          rw [List.contains_eq_mem, decide_eq_false_iff_not] at h1
          have h2 : ¬ y = x := by simpa using hb
          rintro (h | h)
          · exact h1 h
          · exact h2 h.symm
        go_wp2
        go_round
        case rel => exact ⟨k + 1, by omega, by go_num, HS.out⟩
        case measure => simp [intOf]; omega
      · have HT : Hid (r = true) := by
          show _ = _
          have h2 : y = x := by simpa using hb
          rw [Hr.out, List.contains_eq_mem, decide_eq_true_eq, ← h2]
          exact List.mem_of_getElem? hyk.out
        go_wp2
        go_ret
        exact ⟨by rw [HT.out]; rfl, rfl⟩
    · have hkn : k = n := by omega
      have HT : Hid (r = false) := by
        show _ = _
        have h1 := Hc.out
        rw [List.take_of_length_le (by rw [← H.out]; omega)] at h1
        rw [Hr.out, h1]
      go_wp2
      go_ret
      exact ⟨by rw [HT.out]; rfl, rfl⟩

/-- The number of an interface. -/
def nm (a b : Int) : Int := wrap64 (wrap64 (8 * a) + b)
def stepNums (s : Stp) : List Int := (if s.ing = 0 then [] else [nm s.ia s.ing]) ++ (if s.eg = 0 then [] else [nm s.ia s.eg])
def nums (l : List Stp) : List Int := l.flatMap stepNums
theorem nums_len (l : List Stp) : (nums l).length ≤ 2 * l.length := by
  induction l with
  | nil => simp [nums]
  | cons a t ih =>
    have h1 : (stepNums a).length ≤ 2 := by unfold stepNums; split <;> split <;> simp
    have h2 : nums (a :: t) = stepNums a ++ nums t := rfl
    rw [h2, List.length_append, List.length_cons]
    omega
theorem nums_snoc {l : List Stp} {k : Nat} {s : Stp} (h : l[k]? = some s) : nums (l.take (k + 1)) = nums (l.take k) ++ stepNums s := by
  rw [take_succ h]; unfold nums; rw [List.flatMap_append]; simp
theorem nums_take_len (l : List Stp) (k : Nat) : (nums (l.take k)).length ≤ 2 * l.length := by
  have h1 := nums_len (l.take k)
  have h2 : (l.take k).length ≤ l.length := by rw [List.length_take]; omega
  omega
theorem sn00 {s : Stp} (h1 : (s.ing != 0) = false) (h2 : (s.eg != 0) = false) : stepNums s = [] := by
  have e1 : s.ing = 0 := (by simpa using h1)
  have e2 : s.eg = 0 := (by simpa using h2)
  simp [stepNums, e1, e2]
theorem sn01 {s : Stp} (h1 : (s.ing != 0) = false) (h2 : (s.eg != 0) = true) : stepNums s = [nm s.ia s.eg] := by
  have e1 : s.ing = 0 := (by simpa using h1)
  have e2 : ¬ s.eg = 0 := (by simpa using h2)
  simp [stepNums, e1, e2]
theorem sn10 {s : Stp} (h1 : (s.ing != 0) = true) (h2 : (s.eg != 0) = false) : stepNums s = [nm s.ia s.ing] := by
  have e1 : ¬ s.ing = 0 := (by simpa using h1)
  have e2 : s.eg = 0 := (by simpa using h2)
  simp [stepNums, e1, e2]
theorem sn11 {s : Stp} (h1 : (s.ing != 0) = true) (h2 : (s.eg != 0) = true) : stepNums s = [nm s.ia s.ing] ++ [nm s.ia s.eg] := by
  have e1 : ¬ s.ing = 0 := (by simpa using h1)
  have e2 : ¬ s.eg = 0 := (by simpa using h2)
  simp [stepNums, e1, e2]
theorem one_int (w : World) (a : Int) : intT.R w [I a] a := rfl
theorem nm_w (a b : Int) : IntKind.i64.wrap (IntKind.i64.wrap (8 * a) + b) = nm a b := by
  have h : ∀ x, IntKind.i64.wrap x = wrap64 x := fun x => Go.IntWalk.i64_left x
  unfold nm; rw [h, h]
theorem nm_eq (a b : Int) : Value.int .i64 (wrap64 (wrap64 (8 * a) + b)) = I (nm a b) := rfl

set_option maxRecDepth 100000 in
set_option maxHeartbeats 4000000 in
theorem impl_numbered (l : List Stp) (v : Value) (w : World) (h : SlR stepT w v l) (hn : l.length ≤ 1048576) :
    Calls Try.prog 146 #[v] w fun r w' => ∃ v' fp, r = .returned v' ∧ SlO intT 3 w.heap.size w' v' (nums l) fp ∧ Below w.heap.size w w' := by
  obtain ⟨A, c, rfl, _⟩ := h.form
  obtain ⟨n, H⟩ : ∃ n, Hid (n = l.length) := ⟨_, rfl⟩
  rw [← H.out] at h hn ⊢
  go_enter Try.func146, Try.ntmps146
  go_wp2
  go_loopw [3, 8] (fun v i wr => ∃ k : Nat, k ≤ n ∧ i = I k ∧ Below w.heap.size w wr ∧ ∃ fp, SlO intT 3 w.heap.size wr v (nums (l.take k)) fp) (fun _ i _ => n - (intOf i).toNat)
  case atStart => exact ⟨0, by omega, rfl, Below.refl _ _, [], SlO.nil⟩
  case round =>
    obtain ⟨k, hk, rfl, hb, fp, hO⟩ := hrel
    by_cases hlt : k < n
    · obtain ⟨g, o, q, s, e, hg, hsk, c0, c1, c2⟩ := step_at (h.below hb) (by rw [← H.out]; exact hlt)
      rw [← H.out] at e
      cases e
      have hl : (nums (l.take k)).length ≤ 2097152 := by have := nums_take_len l k; have := H.out; omega
      have HN : Hid (nums (l.take (k + 1)) = nums (l.take k) ++ stepNums s) := nums_snoc hsk.out
      obtain ⟨li, Hli⟩ : ∃ li, Hid (li = nums (l.take k)) := ⟨_, rfl⟩
      rw [← Hli.out] at hO hl HN
      obtain ⟨Av, cv, ev, _⟩ := hO.form
      subst ev
      have hlo := hid fun b hb => (hO.size_ok b hb)
      have hws := hb.size
      obtain ⟨a1, Ha1⟩ : ∃ a, Hid (a = nm s.ia s.ing) := ⟨_, rfl⟩
      obtain ⟨a2, Ha2⟩ : ∃ a, Hid (a = nm s.ia s.eg) := ⟨_, rfl⟩
      cases g1 : (s.ing != 0) <;> cases g2 : (s.eg != 0)
      · have HQ : Hid (stepNums s = []) := sn00 g1 g2
        go_wp2
        go_roundw
        case rel => exact ⟨k + 1, by omega, by go_num, ext_alloc hb _, fp, by rw [HN.out, HQ.out, List.append_nil]; exact hO.alloc _⟩
        case measure => simp [intOf]; omega
      · have HQ : Hid (stepNums s = [a2]) := by show _ = _; rw [Ha2.out]; exact sn01 g1 g2
        go_wp2_with ((at_builtin; refine wpList_cat int_flat (.tmp 27) (.tmp 34) et_int (SlO.alloc (SlO.alloc hO _) _) (lit_read (wr.alloc _) 3 I one_int [nm s.ia s.eg] 1 (Nat.le_refl _) (wr.heap.size + 1) 1 (by simp) rfl _ rfl) ?_ ?_ ?_ rfl rfl rfl rfl ?_))
        · simp; omega
        · simp [maxLen]; omega
        · simp; omega
        · intro v1 w1 fp1 hO1 hfp1 hkp1
          have x1 : Below w.heap.size w w1 := (ext_alloc (ext_alloc hb _) _).trans (hkp1.below (fun b hb => (hlo.out b hb).1) (by simp; omega))
          go_wp2
          go_roundw
          case rel => exact ⟨k + 1, by omega, by go_num, x1, fp1, by rw [HN.out, HQ.out, Ha2.out]; exact hO1⟩
          case measure => simp [intOf]; omega
      · have HQ : Hid (stepNums s = [a1]) := by show _ = _; rw [Ha1.out]; exact sn10 g1 g2
        go_wp2_with ((at_builtin; refine wpList_cat int_flat (.tmp 15) (.tmp 22) et_int (SlO.alloc (SlO.alloc hO _) _) (lit_read (wr.alloc _) 3 I one_int [nm s.ia s.ing] 1 (Nat.le_refl _) (wr.heap.size + 1) 1 (by simp) rfl _ rfl) ?_ ?_ ?_ rfl rfl rfl rfl ?_))
        · simp; omega
        · simp [maxLen]; omega
        · simp; omega
        · intro v1 w1 fp1 hO1 hfp1 hkp1
          have x1 : Below w.heap.size w w1 := (ext_alloc (ext_alloc hb _) _).trans (hkp1.below (fun b hb => (hlo.out b hb).1) (by simp; omega))
          have b2 : w1.cell? ⟨wr.heap.size, 2, none⟩ = some (I s.eg) := hkp1.ck (ck (ext_alloc1 _ _) (by simp)) (fun hm => by have := (hlo.out _ hm).2; omega)
          go_wp2
          go_roundw
          case rel => exact ⟨k + 1, by omega, by go_num, x1, fp1, by rw [HN.out, HQ.out, Ha1.out]; exact hO1⟩
          case measure => simp [intOf]; omega
      · have HQ : Hid (stepNums s = [a1] ++ [a2]) := by show _ = _; rw [Ha1.out, Ha2.out]; exact sn11 g1 g2
        go_wp2_with ((at_builtin; refine wpList_cat int_flat (.tmp 15) (.tmp 22) et_int (SlO.alloc (SlO.alloc hO _) _) (lit_read (wr.alloc _) 3 I one_int [nm s.ia s.ing] 1 (Nat.le_refl _) (wr.heap.size + 1) 1 (by simp) rfl _ rfl) ?_ ?_ ?_ rfl rfl rfl rfl ?_))
        · simp; omega
        · simp [maxLen]; omega
        · simp; omega
        · intro v1 w1 fp1 hO1 hfp1 hkp1
          have x1 : Below w.heap.size w w1 := (ext_alloc (ext_alloc hb _) _).trans (hkp1.below (fun b hb => (hlo.out b hb).1) (by simp; omega))
          have b0 : w1.cell? ⟨wr.heap.size, 0, none⟩ = some (I s.ia) := hkp1.ck (ck (ext_alloc1 _ _) (by simp)) (fun hm => by have := (hlo.out _ hm).2; omega)
          have b2 : w1.cell? ⟨wr.heap.size, 2, none⟩ = some (I s.eg) := hkp1.ck (ck (ext_alloc1 _ _) (by simp)) (fun hm => by have := (hlo.out _ hm).2; omega)
          have hx := x1.size
          have hlo1 := hid fun b hb => (hO1.size_ok b hb)
          have hl1 : (li ++ [nm s.ia s.ing]).length ≤ 2097153 := by simp; omega
          go_wp2_with ((at_builtin; refine wpList_cat int_flat (.tmp 27) (.tmp 34) et_int (SlO.alloc hO1 _) (lit_read w1 3 I one_int [nm s.ia s.eg] 1 (Nat.le_refl _) w1.heap.size 1 rfl rfl _ rfl) ?_ ?_ ?_ rfl rfl rfl rfl ?_))
          · simp at hl1 ⊢; omega
          · simp [maxLen] at hl1 ⊢; omega
          · simp; omega
          · intro v2 w2 fp2 hO2 hfp2 hkp2
            have x2 : Below w.heap.size w w2 := (ext_alloc x1 _).trans (hkp2.below (fun b hb => (hlo1.out b hb).1) (by simp; omega))
            go_wp2
            go_roundw
            case rel => exact ⟨k + 1, by omega, by go_num, x2, fp2, by rw [HN.out, HQ.out, Ha1.out, Ha2.out]; exact hO2⟩
            case measure => simp [intOf]; omega
    · have hkn : k = n := by omega
      subst hkn
      rw [H.out, List.take_length] at hO
      go_wp2
      go_ret
      exact ⟨_, fp, rfl, hO, hb⟩

set_option maxRecDepth 100000 in
theorem impl_InterfacesUsed (p : Path) (cs : List Value) (w : World) (h : pathT.R w cs p) (hz : sz_path p ≤ 1048576) (hl : lenOk_path p) (hg : rng_path p) :
    Calls Try.prog 78 #[.agg cs.toArray] w fun r w' => ∃ v fp, r = .returned v ∧ SlO intT 3 w.heap.size w' v (nums (pathSteps p)) fp ∧ Below w.heap.size w w' := by
  have h0 := h
  obtain ⟨A, c, rfl, _⟩ := path_form h
  have hsl := Nat.le_trans (pathSteps_len p) hz
  have HC := hid fun w' (hw : Below w.heap.size w w') => impl_PathSteps p _ w' (pathT.kp h0 hw) hz hl hg
  clear hz hl hg h h0
  have hb0 : Below w.heap.size w (w.alloc (.cells #[.slice A (List.length p) c] 39)) := ext_alloc1 _ _
  go_enter Try.func78, Try.ntmps78
  go_wp2_with (fail)
  refine (HC.out _ hb0).mono ?_
  rintro e w1 ⟨v1, fp1, rfl, hO1, hb1⟩
  go_wp2_with (fail)
  refine (impl_numbered _ _ _ hO1.read hsl).mono ?_
  rintro e w2 ⟨v2, fp2, rfl, hO2, hb2⟩
  have x1 := ext_trans hb0 hb1
  have hs := x1.size
  go_wp2_with (fail)
  go_ret
  exact ⟨_, fp2, rfl, hO2.mono hs, ext_trans x1 hb2⟩

set_option maxRecDepth 100000 in
set_option maxHeartbeats 4000000 in
theorem spec_InterfacesUsed (p : Path) (cs : List Value) (w : World) (h : pathT.R w cs p) (hz : sz_path p ≤ 1048576) (hl : lenOk_path p) (hg : rng_path p) :
    Calls Try.prog 76 #[.agg cs.toArray] w fun r w' => ∃ v fp, r = .returned v ∧ SlO intT 3 w.heap.size w' v (nums (pathSteps p)) fp ∧ Below w.heap.size w w' := by
  have h0 := h
  obtain ⟨A, c, rfl, _⟩ := path_form h
  have hn := Nat.le_trans (pathSteps_len p) hz
  have HC := hid fun w' (hw : Below w.heap.size w w') => spec_PathSteps p _ w' (pathT.kp h0 hw) hz hl hg
  clear hz hl hg h h0
  obtain ⟨l, Hl⟩ : ∃ l, Hid (l = pathSteps p) := ⟨_, rfl⟩
  rw [← Hl.out] at HC hn ⊢
  have hb0 : Below w.heap.size w ((w.alloc (.cells #[.slice A (List.length p) c] 39)).alloc (.cells #[] 3)) := ext_alloc (ext_alloc1 _ _) _
  have hE : SlO intT 3 (w.heap.size + 1) ((w.alloc (.cells #[.slice A (List.length p) c] 39)).alloc (.cells #[] 3)) (.slice (some ⟨w.heap.size + 1, 0, none⟩) 0 0) [] [w.heap.size + 1] := by
    have := SlO.empty intT 3 (w.alloc (.cells #[.slice A (List.length p) c] 39))
    simpa using this
  have HE := hid hE
  clear hE
  go_enter Try.func76, Try.ntmps76
  go_wp2_with (fail)
  refine (HC.out _ hb0).mono ?_
  rintro e w1 ⟨v1, fps, rfl, hO1, hb1⟩
  have hE1 := hid (HE.out.below hb1)
  have X1 := ext_trans hb0 hb1
  have hfs : Hid (∀ b ∈ fps, w.heap.size + 2 ≤ b ∧ b < w1.heap.size) := fun b hb => by have := hO1.size_ok b hb; simp at this; omega
  have hs1 : w.heap.size + 2 ≤ w1.heap.size := by have := hb1.size; simp at this; omega
  obtain ⟨A, c, rfl, _⟩ := hO1.form
  obtain ⟨n, H⟩ : ∃ n, Hid (n = l.length) := ⟨_, rfl⟩
  have HO1 := hid hO1
  rw [← H.out] at hn HO1 ⊢
  clear hb1 hb0 HE HC hO1
  go_wp2
  go_loopw [3, 5] (fun v i wr => ∃ k : Nat, k ≤ n ∧ i = I k ∧ Below w.heap.size w wr ∧ w1.heap.size ≤ wr.heap.size ∧ (∃ B, SlO stepT 131 B wr (.slice A n c) l fps) ∧ ∃ fp, SlO intT 3 (w.heap.size + 1) wr v (nums (l.take k)) fp ∧ ∀ b ∈ fp, b = w.heap.size + 1 ∨ w1.heap.size ≤ b) (fun _ i _ => n - (intOf i).toNat)
  case atStart => exact ⟨0, by omega, rfl, X1, Nat.le_refl _, ⟨_, HO1.out⟩, _, hE1.out, fun b hb => .inl (by simpa using hb)⟩
  case round =>
    obtain ⟨k, hk, rfl, hb, hsz, ⟨B0, hS⟩, fp, hO, hsep⟩ := hrel
    clear X1 hE1 HO1
    by_cases hlt : k < n
    · obtain ⟨g, o, q, s, e, hg, hsk, c0, c1, c2⟩ := step_at hS.read (by rw [← H.out]; exact hlt)
      rw [← H.out] at e
      cases e
      have hgf : g ∈ fps := by obtain ⟨ga, ca, ea, hga, _⟩ := hS.addr (by rw [← H.out]; omega); rw [← H.out] at ea; cases ea; exact hga
      have hgr := hfs.out g hgf
      have hgn : g ∉ fp := fun hm => by rcases hsep g hm with h | h <;> omega
      have hl : (nums (l.take k)).length ≤ 2097152 := by have := nums_take_len l k; have := H.out; omega
      have HN : Hid (nums (l.take (k + 1)) = nums (l.take k) ++ stepNums s) := nums_snoc hsk.out
      obtain ⟨li, Hli⟩ : ∃ li, Hid (li = nums (l.take k)) := ⟨_, rfl⟩
      rw [← Hli.out] at hO hl HN
      obtain ⟨Av, cv, ev, _⟩ := hO.form
      subst ev
      have hlo := hid fun b hb => (hO.size_ok b hb)
      have hws := hb.size
      have Hsep := hid hsep
      have HS := hid hS
      have Hfd : Hid (∀ b ∈ fps, b ∉ fp) := fun b hb hm => by have := hfs.out b hb; rcases hsep b hm with h | h <;> omega
      clear hsep hS
      obtain ⟨wo, rfl⟩ : ∃ wo : World, wo = wr := ⟨_, rfl⟩
      cases g1 : (s.ing != 0)
      · cases g2 : (s.eg != 0)
        · have HQ : Hid (stepNums s = []) := sn00 g1 g2
          go_wp2
          go_roundw
          case rel => exact ⟨k + 1, by omega, by go_num, hb, hsz, ⟨_, HS.out⟩, fp, by rw [HN.out, HQ.out, List.append_nil]; exact hO, Hsep.out⟩
          case measure => simp [intOf]; omega
        · have HQ : Hid (stepNums s = [nm s.ia s.eg]) := sn01 g1 g2
          go_wp2
          go_region_held3 (fun w' => w'.cell? ⟨g, o + k * 3, none⟩ = some (I s.ia) ∧ w'.cell? ⟨g, o + k * 3 + 1, none⟩ = some (I s.ing) ∧ w'.cell? ⟨g, o + k * 3 + 2, none⟩ = some (I s.eg))
            (first | exact ⟨c0, c1, c2⟩ | exact ⟨ck (ext_alloc1 _ _) c0, ck (ext_alloc1 _ _) c1, ck (ext_alloc1 _ _) c2⟩ | exact ⟨a0, a1, a2⟩ | go_keep)
            ((refine step_cat int_flat (.tmp 42) (.tmp 55) et_int (SlO.drew (SlO.alloc hO _)) ((lit_read wo 3 I one_int [IntKind.i64.wrap (IntKind.i64.wrap (8 * s.ia) + s.eg)] 1 (Nat.le_refl _) wo.heap.size 1 rfl rfl #[.int .i64 (IntKind.i64.wrap (IntKind.i64.wrap (8 * s.ia) + s.eg))] rfl).below (below_drew _)) (by simp; omega) (by simp [maxLen]; omega) (by simp; omega) (by rfl) (by rfl) (by rfl) (by rfl) ?_; intro v2 w2 fp2 hO2 hfp2 hkp2; rw [nm_w] at hO2; have a0 := hkp2.ck (show (World.drew (World.alloc wo _)).cell? ⟨g, o + k * 3, none⟩ = some (I s.ia) from ck (ext_alloc1 _ _) c0) hgn; have a1 := hkp2.ck (show (World.drew (World.alloc wo _)).cell? ⟨g, o + k * 3 + 1, none⟩ = some (I s.ing) from ck (ext_alloc1 _ _) c1) hgn; have a2 := hkp2.ck (show (World.drew (World.alloc wo _)).cell? ⟨g, o + k * 3 + 2, none⟩ = some (I s.eg) from ck (ext_alloc1 _ _) c2) hgn))
          have x2 : Below w.heap.size w w2 := ((ext_alloc hb _).drew).trans (hkp2.below (fun b hb => by have := (hlo.out b hb).1; omega) (by simp; omega))
          have hS2 := (HS.out.alloc (.cells #[.int .i64 (IntKind.i64.wrap (IntKind.i64.wrap (8 * s.ia) + s.eg))] 3)).drew.kept hkp2 Hfd.out
          have hz2 : wo.heap.size ≤ w2.heap.size := by have := hkp2.size; simp at this; omega
          go_wp2
          go_roundw
          case rel => exact ⟨k + 1, by omega, by go_num, x2, by omega, ⟨_, hS2⟩, fp2, by rw [HN.out, HQ.out]; exact hO2, fun b hb => by
            rcases hfp2 b hb with h | h
            · exact Hsep.out b h
            · right; simp at h; omega⟩
          case measure => simp [intOf]; omega
      · go_wp2
        go_region_held3 (fun w' => w'.cell? ⟨g, o + k * 3, none⟩ = some (I s.ia) ∧ w'.cell? ⟨g, o + k * 3 + 1, none⟩ = some (I s.ing) ∧ w'.cell? ⟨g, o + k * 3 + 2, none⟩ = some (I s.eg))
          (first | exact ⟨c0, c1, c2⟩ | exact ⟨ck (ext_alloc1 _ _) c0, ck (ext_alloc1 _ _) c1, ck (ext_alloc1 _ _) c2⟩ | exact ⟨a0, a1, a2⟩ | go_keep)
          ((refine step_cat int_flat (.tmp 21) (.tmp 34) et_int (SlO.drew (SlO.alloc hO _)) ((lit_read wo 3 I one_int [IntKind.i64.wrap (IntKind.i64.wrap (8 * s.ia) + s.ing)] 1 (Nat.le_refl _) wo.heap.size 1 rfl rfl #[.int .i64 (IntKind.i64.wrap (IntKind.i64.wrap (8 * s.ia) + s.ing))] rfl).below (below_drew _)) (by simp; omega) (by simp [maxLen]; omega) (by simp; omega) (by rfl) (by rfl) (by rfl) (by rfl) ?_; intro v2 w2 fp2 hO2 hfp2 hkp2; rw [nm_w] at hO2; have a0 := hkp2.ck (show (World.drew (World.alloc wo _)).cell? ⟨g, o + k * 3, none⟩ = some (I s.ia) from ck (ext_alloc1 _ _) c0) hgn; have a1 := hkp2.ck (show (World.drew (World.alloc wo _)).cell? ⟨g, o + k * 3 + 1, none⟩ = some (I s.ing) from ck (ext_alloc1 _ _) c1) hgn; have a2 := hkp2.ck (show (World.drew (World.alloc wo _)).cell? ⟨g, o + k * 3 + 2, none⟩ = some (I s.eg) from ck (ext_alloc1 _ _) c2) hgn))
        have x2 : Below w.heap.size w w2 := ((ext_alloc hb _).drew).trans (hkp2.below (fun b hb => by have := (hlo.out b hb).1; omega) (by simp; omega))
        have hS2 := hid ((HS.out.alloc (.cells #[.int .i64 (IntKind.i64.wrap (IntKind.i64.wrap (8 * s.ia) + s.ing))] 3)).drew.kept hkp2 Hfd.out)
        have hz2 : wo.heap.size ≤ w2.heap.size := by have := hkp2.size; simp at this; omega
        have Hsep2 : Hid (∀ b ∈ fp2, b = w.heap.size + 1 ∨ w1.heap.size ≤ b) := fun b hb => by
          rcases hfp2 b hb with h | h
          · exact Hsep.out b h
          · right; simp at h; omega
        cases g2 : (s.eg != 0)
        · have HQ : Hid (stepNums s = [nm s.ia s.ing]) := sn10 g1 g2
          go_wp2
          go_roundw
          case rel => exact ⟨k + 1, by omega, by go_num, x2, by omega, ⟨_, hS2.out⟩, fp2, by rw [HN.out, HQ.out]; exact hO2, Hsep2.out⟩
          case measure => simp [intOf]; omega
        · have HQ : Hid (stepNums s = [nm s.ia s.ing] ++ [nm s.ia s.eg]) := sn11 g1 g2
          have hgn2 : g ∉ fp2 := fun hm => by rcases Hsep2.out g hm with h | h <;> omega
          have hlo2 := hid fun b hb => (hO2.size_ok b hb)
          have hl2 : (li ++ [nm s.ia s.ing]).length ≤ 2097153 := by simp; omega
          have hx2 := x2.size
          obtain ⟨li2, Hli2⟩ : ∃ li2, Hid (li2 = li ++ [nm s.ia s.ing]) := ⟨_, rfl⟩
          rw [← Hli2.out] at hO2 hl2
          obtain ⟨Av2, cv2, ev2, _⟩ := hO2.form
          subst ev2
          have Hfd2 : Hid (∀ b ∈ fps, b ∉ fp2) := fun b hb hm => by have := hfs.out b hb; rcases Hsep2.out b hm with h | h <;> omega
          clear hkp2 hfp2 hO c0 c1 c2
          go_wp2
          go_region_held3 (fun w' => w'.cell? ⟨g, o + k * 3, none⟩ = some (I s.ia) ∧ w'.cell? ⟨g, o + k * 3 + 1, none⟩ = some (I s.ing) ∧ w'.cell? ⟨g, o + k * 3 + 2, none⟩ = some (I s.eg))
            (first | exact ⟨a0, a1, a2⟩ | exact ⟨ck (ext_alloc1 _ _) a0, ck (ext_alloc1 _ _) a1, ck (ext_alloc1 _ _) a2⟩ | exact ⟨b0, b1, b2⟩ | go_keep)
            ((refine step_cat int_flat (.tmp 42) (.tmp 55) et_int (SlO.drew (SlO.alloc hO2 _)) ((lit_read w2 3 I one_int [IntKind.i64.wrap (IntKind.i64.wrap (8 * s.ia) + s.eg)] 1 (Nat.le_refl _) w2.heap.size 1 rfl rfl #[.int .i64 (IntKind.i64.wrap (IntKind.i64.wrap (8 * s.ia) + s.eg))] rfl).below (below_drew _)) (by simp; omega) (by simp [maxLen]; omega) (by simp; omega) (by rfl) (by rfl) (by rfl) (by rfl) ?_; intro v3 w3 fp3 hO3 hfp3 hkp3; rw [nm_w] at hO3; have b0 := hkp3.ck (show (World.drew (World.alloc w2 _)).cell? ⟨g, o + k * 3, none⟩ = some (I s.ia) from ck (ext_alloc1 _ _) a0) hgn2; have b1 := hkp3.ck (show (World.drew (World.alloc w2 _)).cell? ⟨g, o + k * 3 + 1, none⟩ = some (I s.ing) from ck (ext_alloc1 _ _) a1) hgn2; have b2 := hkp3.ck (show (World.drew (World.alloc w2 _)).cell? ⟨g, o + k * 3 + 2, none⟩ = some (I s.eg) from ck (ext_alloc1 _ _) a2) hgn2))
          have x3 : Below w.heap.size w w3 := ((ext_alloc x2 _).drew).trans (hkp3.below (fun b hb => by have := (hlo2.out b hb).1; omega) (by simp; omega))
          have hS3 := (hS2.out.alloc (.cells #[.int .i64 (IntKind.i64.wrap (IntKind.i64.wrap (8 * s.ia) + s.eg))] 3)).drew.kept hkp3 Hfd2.out
          have hz3 : w2.heap.size ≤ w3.heap.size := by have := hkp3.size; simp at this; omega
          go_wp2
          go_roundw
          case rel => exact ⟨k + 1, by omega, by go_num, x3, by omega, ⟨_, hS3⟩, fp3, by rw [HN.out, HQ.out, ← List.append_assoc, ← Hli2.out]; exact hO3, fun b hb => by
            rcases hfp3 b hb with h | h
            · exact Hsep2.out b h
            · right; simp at h; omega⟩
          case measure => simp [intOf]; omega
    · have hkn : k = n := by omega
      subst hkn
      rw [H.out, List.take_length] at hO
      go_wp2
      go_ret
      exact ⟨_, fp, rfl, hO.mono (by omega), hb⟩

/-- How many interfaces of a are interfaces of b. -/
def shared (a b : List Int) : Nat := (a.filter fun x => b.contains x).length
theorem shared_succ {a b : List Int} {k : Nat} {x : Int} (h : a[k]? = some x) : shared (a.take (k + 1)) b = shared (a.take k) b + (if b.contains x then 1 else 0) := by
  rw [take_succ h]; unfold shared; rw [List.filter_append, List.length_append]
  cases hb : b.contains x <;> simp at hb <;> simp [hb]
theorem shared_le (a b : List Int) : shared a b ≤ a.length := by unfold shared; exact List.length_filter_le _ _

set_option maxRecDepth 100000 in
set_option maxHeartbeats 2000000 in
theorem impl_SharedInterfaces (a : Path) (cs : List Value) (b : Path) (ds : List Value) (w : World) (h : pathT.R w cs a) (hz : sz_path a ≤ 1048576) (hl : lenOk_path a) (hg : rng_path a) (h' : pathT.R w ds b) (hz' : sz_path b ≤ 1048576) (hl' : lenOk_path b) (hg' : rng_path b) :
    Calls Try.prog 119 #[.agg cs.toArray, .agg ds.toArray] w fun e w' => e = .returned (I (shared (nums (pathSteps a)) (nums (pathSteps b)) : Int)) ∧ Below w.heap.size w w' := by
  have ha0 := h
  have hb0 := h'
  obtain ⟨A, c, rfl, _⟩ := path_form h
  obtain ⟨B, d, rfl, _⟩ := path_form h'
  have ha := Nat.le_trans (pathSteps_len a) hz
  have hb := Nat.le_trans (pathSteps_len b) hz'
  have HA := hid fun w' (hw : Below w.heap.size w w') => impl_InterfacesUsed a _ w' (pathT.kp ha0 hw) hz hl hg
  have HB := hid fun w' (hw : Below w.heap.size w w') => impl_InterfacesUsed b _ w' (pathT.kp hb0 hw) hz' hl' hg'
  have hla : (nums (pathSteps a)).length ≤ 2097152 := by have := nums_len (pathSteps a); omega
  have hlb : (nums (pathSteps b)).length ≤ 2097152 := by have := nums_len (pathSteps b); omega
  obtain ⟨x, Hx⟩ : ∃ x, Hid (x = nums (pathSteps a)) := ⟨_, rfl⟩
  obtain ⟨y, Hy⟩ : ∃ y, Hid (y = nums (pathSteps b)) := ⟨_, rfl⟩
  rw [← Hx.out] at HA hla ⊢
  rw [← Hy.out] at HB hlb ⊢
  obtain ⟨na, Hna⟩ : ∃ n, Hid (n = List.length a) := ⟨_, rfl⟩
  obtain ⟨nb, Hnb⟩ : ∃ n, Hid (n = List.length b) := ⟨_, rfl⟩
  rw [← Hna.out] at HA ⊢
  rw [← Hnb.out] at HB ⊢
  clear hz hl hg hz' hl' hg' h h' ha0 hb0 ha hb
  obtain ⟨W, HW⟩ : ∃ W, Hid (W = (w.alloc (.cells #[.slice A na c] 39)).alloc (.cells #[.slice B nb d] 39)) := ⟨_, rfl⟩
  have x0 : Below w.heap.size w W := by rw [HW.out]; exact ext_alloc (ext_alloc1 _ _) _
  have p0 := hid (show W.cell? ⟨w.heap.size, 0, none⟩ = some (.slice A na c) by rw [HW.out]; simp)
  have p1 := hid (show W.cell? ⟨w.heap.size + 1, 0, none⟩ = some (.slice B nb d) by rw [HW.out]; simp)
  go_enter Try.func119, Try.ntmps119
  go_wp2_with (fail)
  rw [← HW.out]
  refine (HB.out W x0).mono ?_
  rintro e w1 ⟨v1, fp1, rfl, hO1, hb1⟩
  have q0 := ck hb1 p0.out
  have q1 := ck hb1 p1.out
  have x1 := ext_trans x0 hb1
  go_wp2_with (fail)
  refine (HA.out w1 x1).mono ?_
  rintro e w2 ⟨v2, fp2, rfl, hO2, hb2⟩
  have x2 := ext_trans x1 hb2
  have hO1' := hO1.below hb2
  obtain ⟨A1, d1, rfl, _⟩ := hO1'.form
  obtain ⟨A2, d2, rfl, _⟩ := hO2.form
  have hX := hO2.read; have hY := hO1'.read
  clear hO1 hO2 hO1' q0 q1 hb1 hb2 x0 x1 HA HB
  obtain ⟨n, H⟩ : ∃ n, Hid (n = x.length) := ⟨_, rfl⟩
  obtain ⟨m, Hm⟩ : ∃ n, Hid (n = y.length) := ⟨_, rfl⟩
  rw [← H.out] at hX hla ⊢
  rw [← Hm.out] at hY ⊢
  go_wp2
  go_loop [6, 14] (fun t i => ∃ k : Nat, k ≤ n ∧ i = I k ∧ t = I (shared (x.take k) y : Int)) (fun _ i => n - (intOf i).toNat)
  case atStart => exact ⟨0, by omega, rfl, rfl⟩
  case round =>
    obtain ⟨k, hk, rfl, rfl⟩ := hrel
    by_cases hlt : k < n
    · obtain ⟨g, o, q, z, e, hg, hzk, c0⟩ := int_at hX (by rw [← H.out]; exact hlt)
      rw [← H.out] at e
      cases e
      have HS := hid (shared_succ (b := y) hzk.out)
      have hsl : shared (x.take k) y ≤ 2097152 := Nat.le_trans (shared_le _ _) (by rw [List.length_take]; omega)
      obtain ⟨t, Ht⟩ : ∃ t, Hid (t = shared (x.take k) y) := ⟨_, rfl⟩
      rw [← Ht.out] at hsl HS ⊢
      have HH := hid (impl_hasInt y _ z w2 hY (by omega))
      obtain ⟨bb, Hbb⟩ : ∃ bb, Hid (bb = y.contains z) := ⟨_, rfl⟩
      rw [← Hbb.out] at HH HS
      cases bb
      · go_wp2_with (go_at_call 79; refine HH.out.mono ?_; rintro e w3 ⟨rfl, rfl⟩)
        go_round
        case rel => exact ⟨k + 1, by omega, by go_num, by rw [HS.out]; rfl⟩
        case measure => simp [intOf]; omega
      · go_wp2_with (go_at_call 79; refine HH.out.mono ?_; rintro e w3 ⟨rfl, rfl⟩)
        go_round
        case rel => exact ⟨k + 1, by omega, by go_num, by rw [HS.out]; simp⟩
        case measure => simp [intOf]; omega
    · have hkn : k = n := by omega
      subst hkn
      go_wp2
      go_ret
      exact ⟨by rw [H.out, List.take_length]; rfl, x2⟩
set_option maxRecDepth 100000 in
set_option maxHeartbeats 2000000 in
theorem spec_SharedInterfaces (a : Path) (cs : List Value) (b : Path) (ds : List Value) (w : World) (h : pathT.R w cs a) (hz : sz_path a ≤ 1048576) (hl : lenOk_path a) (hg : rng_path a) (h' : pathT.R w ds b) (hz' : sz_path b ≤ 1048576) (hl' : lenOk_path b) (hg' : rng_path b) :
    Calls Try.prog 168 #[.agg cs.toArray, .agg ds.toArray] w fun e w' => e = .returned (I (shared (nums (pathSteps a)) (nums (pathSteps b)) : Int)) ∧ Below w.heap.size w w' := by
  have ha0 := h
  have hb0 := h'
  obtain ⟨A, c, rfl, _⟩ := path_form h
  obtain ⟨B, d, rfl, _⟩ := path_form h'
  have ha := Nat.le_trans (pathSteps_len a) hz
  have hb := Nat.le_trans (pathSteps_len b) hz'
  have HA := hid fun w' (hw : Below w.heap.size w w') => spec_InterfacesUsed a _ w' (pathT.kp ha0 hw) hz hl hg
  have HB := hid fun w' (hw : Below w.heap.size w w') => spec_InterfacesUsed b _ w' (pathT.kp hb0 hw) hz' hl' hg'
  have hla : (nums (pathSteps a)).length ≤ 2097152 := by have := nums_len (pathSteps a); omega
  have hlb : (nums (pathSteps b)).length ≤ 2097152 := by have := nums_len (pathSteps b); omega
  obtain ⟨x, Hx⟩ : ∃ x, Hid (x = nums (pathSteps a)) := ⟨_, rfl⟩
  obtain ⟨y, Hy⟩ : ∃ y, Hid (y = nums (pathSteps b)) := ⟨_, rfl⟩
  rw [← Hx.out] at HA hla ⊢
  rw [← Hy.out] at HB hlb ⊢
  obtain ⟨na, Hna⟩ : ∃ n, Hid (n = List.length a) := ⟨_, rfl⟩
  obtain ⟨nb, Hnb⟩ : ∃ n, Hid (n = List.length b) := ⟨_, rfl⟩
  rw [← Hna.out] at HA ⊢
  rw [← Hnb.out] at HB ⊢
  clear hz hl hg hz' hl' hg' h h' ha0 hb0 ha hb
  obtain ⟨W, HW⟩ : ∃ W, Hid (W = (w.alloc (.cells #[.slice A na c] 39)).alloc (.cells #[.slice B nb d] 39)) := ⟨_, rfl⟩
  have x0 : Below w.heap.size w W := by rw [HW.out]; exact ext_alloc (ext_alloc1 _ _) _
  have p0 := hid (show W.cell? ⟨w.heap.size, 0, none⟩ = some (.slice A na c) by rw [HW.out]; simp)
  have p1 := hid (show W.cell? ⟨w.heap.size + 1, 0, none⟩ = some (.slice B nb d) by rw [HW.out]; simp)
  go_enter Try.func168, Try.ntmps168
  go_wp2_with (fail)
  rw [← HW.out]
  refine (HA.out W x0).mono ?_
  rintro e w1 ⟨v1, fp1, rfl, hO1, hb1⟩
  have q0 := ck hb1 p0.out
  have q1 := ck hb1 p1.out
  have x1 := ext_trans x0 hb1
  go_wp2_with (fail)
  refine (HB.out w1 x1).mono ?_
  rintro e w2 ⟨v2, fp2, rfl, hO2, hb2⟩
  have x2 := ext_trans x1 hb2
  have hO1' := hO1.below hb2
  obtain ⟨A1, d1, rfl, _⟩ := hO1'.form
  obtain ⟨A2, d2, rfl, _⟩ := hO2.form
  have hX := hO1'.read; have hY := hO2.read
  clear hO1 hO2 hO1' q0 q1 hb1 hb2 x0 x1 HA HB
  obtain ⟨n, H⟩ : ∃ n, Hid (n = x.length) := ⟨_, rfl⟩
  obtain ⟨m, Hm⟩ : ∃ n, Hid (n = y.length) := ⟨_, rfl⟩
  rw [← H.out] at hX hla ⊢
  rw [← Hm.out] at hY ⊢
  go_wp2
  go_loop [5, 8] (fun t i => ∃ k : Nat, k ≤ n ∧ i = I k ∧ t = I (shared (x.take k) y : Int)) (fun _ i => n - (intOf i).toNat)
  case atStart => exact ⟨0, by omega, rfl, rfl⟩
  case round =>
    obtain ⟨k, hk, rfl, rfl⟩ := hrel
    by_cases hlt : k < n
    · obtain ⟨g, o, q, z, e, hg, hzk, c0⟩ := int_at hX (by rw [← H.out]; exact hlt)
      rw [← H.out] at e
      cases e
      have HS := hid (shared_succ (b := y) hzk.out)
      have hsl : shared (x.take k) y ≤ 2097152 := Nat.le_trans (shared_le _ _) (by rw [List.length_take]; omega)
      obtain ⟨t, Ht⟩ : ∃ t, Hid (t = shared (x.take k) y) := ⟨_, rfl⟩
      rw [← Ht.out] at hsl HS ⊢
      have HH := hid (spec_l9Has y _ z w2 hY (by omega))
      obtain ⟨bb, Hbb⟩ : ∃ bb, Hid (bb = y.contains z) := ⟨_, rfl⟩
      rw [← Hbb.out] at HH HS
      cases bb
      · go_wp2_with (go_at_call 77; refine HH.out.mono ?_; rintro e w3 ⟨rfl, rfl⟩)
        go_round
        case rel => exact ⟨k + 1, by omega, by go_num, by rw [HS.out]; rfl⟩
        case measure => simp [intOf]; omega
      · go_wp2_with (go_at_call 77; refine HH.out.mono ?_; rintro e w3 ⟨rfl, rfl⟩)
        go_round
        case rel => exact ⟨k + 1, by omega, by go_num, by rw [HS.out]; simp⟩
        case measure => simp [intOf]; omega
    · have hkn : k = n := by omega
      subst hkn
      go_wp2
      go_ret
      exact ⟨by rw [H.out, List.take_length]; rfl, x2⟩

end Go.Proofs.Ytfgobdejlfojiaa
