/- What LawFnSorts needs of the texts below it, part 3: contracts of functions, plain lemmas. (Put together by slim.py.) -/
import Derived.Test.YtljkgpembicloaaGreatSLawFnSorts2
namespace Go.Proofs.YtljkgpembicloaaGreat
open Go.RowKit
set_option linter.unusedVariables false
set_option maxRecDepth 100000
theorem impl_hasInt (l : List Int) (v : Value) (x : Int) (w : World) (h : SlR intT w v l) (hn : l.length ≤ 16777216) : Calls Tryz.prog 80 #[v, I x] w fun e w' => e = .returned (.bool (l.contains x)) ∧ w = w' := by
 obtain ⟨A, c, rfl, _⟩ := h.form; obtain ⟨n, H⟩ : ∃ n, Hid (n = l.length) := ⟨_, rfl⟩; obtain ⟨r, Hr⟩ : ∃ r, Hid (r = l.contains x) := ⟨_, rfl⟩; rw [← Hr.out]; rw [← H.out] at h hn ⊢
 go_enter Tryz.func80, Tryz.ntmps80
 go_wp2
 go_loop [9] (fun i => ∃ k : Nat, k ≤ n ∧ i = I k ∧ (l.take k).contains x = false) (fun i => n - (intOf i).toNat)
 case atStart => exact ⟨0, by omega, rfl, rfl⟩
 case round =>
  obtain ⟨k, hk, rfl, hc⟩ := hrel; have Hc := hid hc; clear hc
  by_cases hlt : k < n
  ·obtain ⟨g, o, q, y, e, hg, hyk, c0⟩ := int_at h (by rw [← H.out]; exact hlt); rw [← H.out] at e; cases e; cases hb : (y == x)
   ·have HS : Hid ((l.take (k + 1)).contains x = false) := by
     show _ = _
     rw [take_succ hyk.out, List.contains_eq_mem, decide_eq_false_iff_not, List.mem_append, List.mem_singleton]; have h1 := Hc.out; rw [List.contains_eq_mem, decide_eq_false_iff_not] at h1
     have h2 : ¬ y = x := by simpa using hb
     rintro (h | h)
     ·exact h1 h
     ·exact h2 h.symm
    go_wp2
    go_round
    case rel => exact ⟨k + 1, by omega, by go_num, HS.out⟩
    case measure => simp [intOf]; omega
   ·have HT : Hid (r = true) := by
     show _ = _
     have h2 : y = x := by simpa using hb
     rw [Hr.out, List.contains_eq_mem, decide_eq_true_eq, ← h2]; exact List.mem_of_getElem? hyk.out
    go_wp2
    go_ret
    exact ⟨by rw [HT.out]; rfl, rfl⟩
  ·have hkn : k = n := by omega
   have HT : Hid (r = false) := by
    show _ = _
    have h1 := Hc.out; rw [List.take_of_length_le (by rw [← H.out]; omega)] at h1; rw [Hr.out, h1]
   go_wp2
   go_ret
   exact ⟨by rw [HT.out]; rfl, rfl⟩
theorem spec_l9Has (l : List Int) (v : Value) (x : Int) (w : World) (h : SlR intT w v l) (hn : l.length ≤ 16777216) : Calls Tryz.prog 82 #[v, I x] w fun e w' => e = .returned (.bool (l.contains x)) ∧ w = w' := by
 obtain ⟨A, c, rfl, _⟩ := h.form; obtain ⟨n, H⟩ : ∃ n, Hid (n = l.length) := ⟨_, rfl⟩; obtain ⟨r, Hr⟩ : ∃ r, Hid (r = l.contains x) := ⟨_, rfl⟩; rw [← Hr.out]; rw [← H.out] at h hn ⊢
 go_enter Tryz.func82, Tryz.ntmps82
 go_wp2
 go_loop [5] (fun i => ∃ k : Nat, k ≤ n ∧ i = I k ∧ (l.take k).contains x = false) (fun i => n - (intOf i).toNat)
 case atStart => exact ⟨0, by omega, rfl, rfl⟩
 case round =>
  obtain ⟨k, hk, rfl, hc⟩ := hrel; have Hc := hid hc; clear hc
  by_cases hlt : k < n
  ·obtain ⟨g, o, q, y, e, hg, hyk, c0⟩ := int_at h (by rw [← H.out]; exact hlt); rw [← H.out] at e; cases e; cases hb : (y == x)
   ·have HS : Hid ((l.take (k + 1)).contains x = false) := by
     show _ = _
     rw [take_succ hyk.out, List.contains_eq_mem, decide_eq_false_iff_not, List.mem_append, List.mem_singleton]; have h1 := Hc.out; rw [List.contains_eq_mem, decide_eq_false_iff_not] at h1
     have h2 : ¬ y = x := by simpa using hb
     rintro (h | h)
     ·exact h1 h
     ·exact h2 h.symm
    go_wp2
    go_round
    case rel => exact ⟨k + 1, by omega, by go_num, HS.out⟩
    case measure => simp [intOf]; omega
   ·have HT : Hid (r = true) := by
     show _ = _
     have h2 : y = x := by simpa using hb
     rw [Hr.out, List.contains_eq_mem, decide_eq_true_eq, ← h2]; exact List.mem_of_getElem? hyk.out
    go_wp2
    go_ret
    exact ⟨by rw [HT.out]; rfl, rfl⟩
  ·have hkn : k = n := by omega
   have HT : Hid (r = false) := by
    show _ = _
    have h1 := Hc.out; rw [List.take_of_length_le (by rw [← H.out]; omega)] at h1; rw [Hr.out, h1]
   go_wp2
   go_ret
   exact ⟨by rw [HT.out]; rfl, rfl⟩
/-- The number of an interface. -/
def nm (a b : Int) : Int := wrap64 (wrap64 (8 * a) + b)
def stepNums (s : Stp) : List Int := (if s.ing = 0 then [] else [nm s.ia s.ing]) ++ (if s.eg = 0 then [] else [nm s.ia s.eg])
def nums (l : List Stp) : List Int := l.flatMap stepNums
theorem nums_len (l : List Stp) : (nums l).length ≤ 2 * l.length := by
  induction l with
  | nil => simp [nums]
  | cons a t ih =>
    have h1 : (stepNums a).length ≤ 2 := by unfold stepNums; split <;> split <;> simp
    have h2 : nums (a :: t) = stepNums a ++ nums t := rfl; rw [h2, List.length_append, List.length_cons]
    omega
theorem nums_snoc {l : List Stp} {k : Nat} {s : Stp} (h : l[k]? = some s) : nums (l.take (k + 1)) = nums (l.take k) ++ stepNums s := by
  rw [take_succ h]; unfold nums; rw [List.flatMap_append]; simp
theorem nums_take_len (l : List Stp) (k : Nat) : (nums (l.take k)).length ≤ 2 * l.length := by
  have h1 := nums_len (l.take k)
  have h2 : (l.take k).length ≤ l.length := by rw [List.length_take]; omega
  omega
theorem sn00 {s : Stp} (h1 : (s.ing != 0) = false) (h2 : (s.eg != 0) = false) : stepNums s = [] := by
  have e1 : s.ing = 0 := (by simpa using h1); have e2 : s.eg = 0 := (by simpa using h2)
  simp [stepNums, e1, e2]
theorem sn01 {s : Stp} (h1 : (s.ing != 0) = false) (h2 : (s.eg != 0) = true) : stepNums s = [nm s.ia s.eg] := by
  have e1 : s.ing = 0 := (by simpa using h1); have e2 : ¬ s.eg = 0 := (by simpa using h2)
  simp [stepNums, e1, e2]
theorem sn10 {s : Stp} (h1 : (s.ing != 0) = true) (h2 : (s.eg != 0) = false) : stepNums s = [nm s.ia s.ing] := by
  have e1 : ¬ s.ing = 0 := (by simpa using h1); have e2 : s.eg = 0 := (by simpa using h2)
  simp [stepNums, e1, e2]
theorem sn11 {s : Stp} (h1 : (s.ing != 0) = true) (h2 : (s.eg != 0) = true) : stepNums s = [nm s.ia s.ing] ++ [nm s.ia s.eg] := by
  have e1 : ¬ s.ing = 0 := (by simpa using h1); have e2 : ¬ s.eg = 0 := (by simpa using h2)
  simp [stepNums, e1, e2]
theorem one_int (w : World) (a : Int) : intT.R w [I a] a := rfl
theorem nm_w (a b : Int) : IntKind.i64.wrap (IntKind.i64.wrap (8 * a) + b) = nm a b := by
  have h : ∀ x, IntKind.i64.wrap x = wrap64 x := fun x => Go.IntWalk.i64_left x
  unfold nm; rw [h, h]
set_option maxRecDepth 100000 in
set_option maxHeartbeats 4000000 in
theorem impl_numbered (l : List Stp) (v : Value) (w : World) (h : SlR stepT w v l) (hn : l.length ≤ 1048576) :
  Calls Tryz.prog 89 #[v] w fun r w' => ∃ v' fp, r = .returned v' ∧ SlO intT 3 w.heap.size w' v' (nums l) fp ∧ Below w.heap.size w w' := by
 obtain ⟨A, c, rfl, _⟩ := h.form; obtain ⟨n, H⟩ : ∃ n, Hid (n = l.length) := ⟨_, rfl⟩; rw [← H.out] at h hn ⊢
 go_enter Tryz.func89, Tryz.ntmps89
 go_wp2
 go_loopw [3, 8] (fun v i wr => ∃ k : Nat, k ≤ n ∧ i = I k ∧ Below w.heap.size w wr ∧ ∃ fp, SlO intT 3 w.heap.size wr v (nums (l.take k)) fp) (fun _ i _ => n - (intOf i).toNat)
 case atStart => exact ⟨0, by omega, rfl, Below.refl _ _, [], SlO.nil⟩
 case round =>
  obtain ⟨k, hk, rfl, hb, fp, hO⟩ := hrel
  by_cases hlt : k < n
  ·obtain ⟨g, o, q, s, e, hg, hsk, c0, c1, c2⟩ := step_at (h.below hb) (by rw [← H.out]; exact hlt); rw [← H.out] at e; cases e
   have hl : (nums (l.take k)).length ≤ 2097152 := by have := nums_take_len l k; have := H.out; omega
   have HN : Hid (nums (l.take (k + 1)) = nums (l.take k) ++ stepNums s) := nums_snoc hsk.out; obtain ⟨li, Hli⟩ : ∃ li, Hid (li = nums (l.take k)) := ⟨_, rfl⟩; rw [← Hli.out] at hO hl HN; obtain ⟨Av, cv, ev, _⟩ := hO.form; subst ev
   have hlo := hid fun b hb => (hO.size_ok b hb)
   have hws := hb.size; obtain ⟨a1, Ha1⟩ : ∃ a, Hid (a = nm s.ia s.ing) := ⟨_, rfl⟩; obtain ⟨a2, Ha2⟩ : ∃ a, Hid (a = nm s.ia s.eg) := ⟨_, rfl⟩
   cases g1 : (s.ing != 0) <;> cases g2 : (s.eg != 0)
   ·have HQ : Hid (stepNums s = []) := sn00 g1 g2
    go_wp2
    go_roundw
    case rel => exact ⟨k + 1, by omega, by go_num, ext_alloc hb _, fp, by rw [HN.out, HQ.out, List.append_nil]; exact hO.alloc _⟩
    case measure => simp [intOf]; omega
   ·have HQ : Hid (stepNums s = [a2]) := by show _ = _; rw [Ha2.out]; exact sn01 g1 g2
    go_wp2_with ((at_builtin; refine wpList_cat int_flat (.tmp 27) (.tmp 34) et_int (SlO.alloc (SlO.alloc hO _) _) (lit_read (wr.alloc _) 3 I one_int [nm s.ia s.eg] 1 (Nat.le_refl _) (wr.heap.size + 1) 1 (by simp) rfl _ rfl) ?_ ?_ ?_ rfl rfl rfl rfl ?_))
    ·simp; omega
    ·simp [maxLen]; omega
    ·simp; omega
    ·intro v1 w1 fp1 hO1 hfp1 hkp1; have x1 : Below w.heap.size w w1 := (ext_alloc (ext_alloc hb _) _).trans (hkp1.below (fun b hb => (hlo.out b hb).1) (by simp; omega))
     go_wp2
     go_roundw
     case rel => exact ⟨k + 1, by omega, by go_num, x1, fp1, by rw [HN.out, HQ.out, Ha2.out]; exact hO1⟩
     case measure => simp [intOf]; omega
   ·have HQ : Hid (stepNums s = [a1]) := by show _ = _; rw [Ha1.out]; exact sn10 g1 g2
    go_wp2_with ((at_builtin; refine wpList_cat int_flat (.tmp 15) (.tmp 22) et_int (SlO.alloc (SlO.alloc hO _) _) (lit_read (wr.alloc _) 3 I one_int [nm s.ia s.ing] 1 (Nat.le_refl _) (wr.heap.size + 1) 1 (by simp) rfl _ rfl) ?_ ?_ ?_ rfl rfl rfl rfl ?_))
    ·simp; omega
    ·simp [maxLen]; omega
    ·simp; omega
    ·intro v1 w1 fp1 hO1 hfp1 hkp1; have x1 : Below w.heap.size w w1 := (ext_alloc (ext_alloc hb _) _).trans (hkp1.below (fun b hb => (hlo.out b hb).1) (by simp; omega)); have b2 : w1.cell? ⟨wr.heap.size, 2, none⟩ = some (I s.eg) := hkp1.ck (ck (ext_alloc1 _ _) (by simp)) (fun hm => by have := (hlo.out _ hm).2; omega)
     go_wp2
     go_roundw
     case rel => exact ⟨k + 1, by omega, by go_num, x1, fp1, by rw [HN.out, HQ.out, Ha1.out]; exact hO1⟩
     case measure => simp [intOf]; omega
   ·have HQ : Hid (stepNums s = [a1] ++ [a2]) := by show _ = _; rw [Ha1.out, Ha2.out]; exact sn11 g1 g2
    go_wp2_with ((at_builtin; refine wpList_cat int_flat (.tmp 15) (.tmp 22) et_int (SlO.alloc (SlO.alloc hO _) _) (lit_read (wr.alloc _) 3 I one_int [nm s.ia s.ing] 1 (Nat.le_refl _) (wr.heap.size + 1) 1 (by simp) rfl _ rfl) ?_ ?_ ?_ rfl rfl rfl rfl ?_))
    ·simp; omega
    ·simp [maxLen]; omega
    ·simp; omega
    ·intro v1 w1 fp1 hO1 hfp1 hkp1; have x1 : Below w.heap.size w w1 := (ext_alloc (ext_alloc hb _) _).trans (hkp1.below (fun b hb => (hlo.out b hb).1) (by simp; omega)); have b0 : w1.cell? ⟨wr.heap.size, 0, none⟩ = some (I s.ia) := hkp1.ck (ck (ext_alloc1 _ _) (by simp)) (fun hm => by have := (hlo.out _ hm).2; omega); have b2 : w1.cell? ⟨wr.heap.size, 2, none⟩ = some (I s.eg) := hkp1.ck (ck (ext_alloc1 _ _) (by simp)) (fun hm => by have := (hlo.out _ hm).2; omega); have hx := x1.size
     have hlo1 := hid fun b hb => (hO1.size_ok b hb)
     have hl1 : (li ++ [nm s.ia s.ing]).length ≤ 2097153 := by simp; omega
     go_wp2_with ((at_builtin; refine wpList_cat int_flat (.tmp 27) (.tmp 34) et_int (SlO.alloc hO1 _) (lit_read w1 3 I one_int [nm s.ia s.eg] 1 (Nat.le_refl _) w1.heap.size 1 rfl rfl _ rfl) ?_ ?_ ?_ rfl rfl rfl rfl ?_))
     ·simp at hl1 ⊢; omega
     ·simp [maxLen] at hl1 ⊢; omega
     ·simp; omega
     ·intro v2 w2 fp2 hO2 hfp2 hkp2; have x2 : Below w.heap.size w w2 := (ext_alloc x1 _).trans (hkp2.below (fun b hb => (hlo1.out b hb).1) (by simp; omega))
      go_wp2
      go_roundw
      case rel => exact ⟨k + 1, by omega, by go_num, x2, fp2, by rw [HN.out, HQ.out, Ha1.out, Ha2.out]; exact hO2⟩
      case measure => simp [intOf]; omega
  ·have hkn : k = n := by omega
   subst hkn; rw [H.out, List.take_length] at hO
   go_wp2
   go_ret
   exact ⟨_, fp, rfl, hO, hb⟩
set_option maxRecDepth 100000 in
theorem impl_InterfacesUsed (p : Path) (cs : List Value) (w : World) (h : pathT.R w cs p) (hz : sz_path p ≤ 1048576) (hl : lenOk_path p) (hg : rng_path p) :
    Calls Tryz.prog 44 #[.agg cs.toArray] w fun r w' => ∃ v fp, r = .returned v ∧ SlO intT 3 w.heap.size w' v (nums (pathSteps p)) fp ∧ Below w.heap.size w w' := by
  have h0 := h; obtain ⟨A, c, rfl, _⟩ := path_form h; have hsl := Nat.le_trans (pathSteps_len p) hz
  have HC := hid fun w' (hw : Below w.heap.size w w') => impl_PathSteps p _ w' (pathT.kp h0 hw) hz hl hg
  clear hz hl hg h h0; have hb0 : Below w.heap.size w (w.alloc (.cells #[.slice A (List.length p) c] 38)) := ext_alloc1 _ _
  go_enter Tryz.func44, Tryz.ntmps44
  go_wp2_with (fail)
  refine (HC.out _ hb0).mono ?_; rintro e w1 ⟨v1, fp1, rfl, hO1, hb1⟩
  go_wp2_with (fail)
  refine (impl_numbered _ _ _ hO1.read hsl).mono ?_; rintro e w2 ⟨v2, fp2, rfl, hO2, hb2⟩; have x1 := ext_trans hb0 hb1; have hs := x1.size
  go_wp2_with (fail)
  go_ret
  exact ⟨_, fp2, rfl, hO2.mono hs, ext_trans x1 hb2⟩
set_option maxRecDepth 100000 in
set_option maxHeartbeats 4000000 in
theorem spec_InterfacesUsed (p : Path) (cs : List Value) (w : World) (h : pathT.R w cs p) (hz : sz_path p ≤ 1048576) (hl : lenOk_path p) (hg : rng_path p) :
  Calls Tryz.prog 81 #[.agg cs.toArray] w fun r w' => ∃ v fp, r = .returned v ∧ SlO intT 3 w.heap.size w' v (nums (pathSteps p)) fp ∧ Below w.heap.size w w' := by
 have h0 := h; obtain ⟨A, c, rfl, _⟩ := path_form h; have hn := Nat.le_trans (pathSteps_len p) hz
 have HC := hid fun w' (hw : Below w.heap.size w w') => spec_PathSteps p _ w' (pathT.kp h0 hw) hz hl hg
 clear hz hl hg h h0; obtain ⟨l, Hl⟩ : ∃ l, Hid (l = pathSteps p) := ⟨_, rfl⟩; rw [← Hl.out] at HC hn ⊢; have hb0 : Below w.heap.size w ((w.alloc (.cells #[.slice A (List.length p) c] 38)).alloc (.cells #[] 3)) := ext_alloc (ext_alloc1 _ _) _
 have hE : SlO intT 3 (w.heap.size + 1) ((w.alloc (.cells #[.slice A (List.length p) c] 38)).alloc (.cells #[] 3)) (.slice (some ⟨w.heap.size + 1, 0, none⟩) 0 0) [] [w.heap.size + 1] := by
  have := SlO.empty intT 3 (w.alloc (.cells #[.slice A (List.length p) c] 38))
  simpa using this
 have HE := hid hE; clear hE
 go_enter Tryz.func81, Tryz.ntmps81
 go_wp2_with (fail)
 refine (HC.out _ hb0).mono ?_; rintro e w1 ⟨v1, fps, rfl, hO1, hb1⟩; have hE1 := hid (HE.out.below hb1); have X1 := ext_trans hb0 hb1
 have hfs : Hid (∀ b ∈ fps, w.heap.size + 2 ≤ b ∧ b < w1.heap.size) := fun b hb => by have := hO1.size_ok b hb; simp at this; omega
 have hs1 : w.heap.size + 2 ≤ w1.heap.size := by have := hb1.size; simp at this; omega
 obtain ⟨A, c, rfl, _⟩ := hO1.form; obtain ⟨n, H⟩ : ∃ n, Hid (n = l.length) := ⟨_, rfl⟩; have HO1 := hid hO1; rw [← H.out] at hn HO1 ⊢; clear hb1 hb0 HE HC hO1
 go_wp2
 go_loopw [3, 5] (fun v i wr => ∃ k : Nat, k ≤ n ∧ i = I k ∧ Below w.heap.size w wr ∧ w1.heap.size ≤ wr.heap.size ∧ (∃ B, SlO stepT 45 B wr (.slice A n c) l fps) ∧ ∃ fp, SlO intT 3 (w.heap.size + 1) wr v (nums (l.take k)) fp ∧ ∀ b ∈ fp, b = w.heap.size + 1 ∨ w1.heap.size ≤ b) (fun _ i _ => n - (intOf i).toNat)
 case atStart => exact ⟨0, by omega, rfl, X1, Nat.le_refl _, ⟨_, HO1.out⟩, _, hE1.out, fun b hb => .inl (by simpa using hb)⟩
 case round =>
  obtain ⟨k, hk, rfl, hb, hsz, ⟨B0, hS⟩, fp, hO, hsep⟩ := hrel; clear X1 hE1 HO1
  by_cases hlt : k < n
  ·obtain ⟨g, o, q, s, e, hg, hsk, c0, c1, c2⟩ := step_at hS.read (by rw [← H.out]; exact hlt); rw [← H.out] at e; cases e
   have hgf : g ∈ fps := by obtain ⟨ga, ca, ea, hga, _⟩ := hS.addr (by rw [← H.out]; omega); rw [← H.out] at ea; cases ea; exact hga
   have hgr := hfs.out g hgf
   have hgn : g ∉ fp := fun hm => by rcases hsep g hm with h | h <;> omega
   have hl : (nums (l.take k)).length ≤ 2097152 := by have := nums_take_len l k; have := H.out; omega
   have HN : Hid (nums (l.take (k + 1)) = nums (l.take k) ++ stepNums s) := nums_snoc hsk.out; obtain ⟨li, Hli⟩ : ∃ li, Hid (li = nums (l.take k)) := ⟨_, rfl⟩; rw [← Hli.out] at hO hl HN; obtain ⟨Av, cv, ev, _⟩ := hO.form; subst ev
   have hlo := hid fun b hb => (hO.size_ok b hb)
   have hws := hb.size; have Hsep := hid hsep; have HS := hid hS
   have Hfd : Hid (∀ b ∈ fps, b ∉ fp) := fun b hb hm => by have := hfs.out b hb; rcases hsep b hm with h | h <;> omega
   clear hsep hS; obtain ⟨wo, rfl⟩ : ∃ wo : World, wo = wr := ⟨_, rfl⟩; cases g1 : (s.ing != 0)
   ·cases g2 : (s.eg != 0)
    ·have HQ : Hid (stepNums s = []) := sn00 g1 g2
     go_wp2
     go_roundw
     case rel => exact ⟨k + 1, by omega, by go_num, hb, hsz, ⟨_, HS.out⟩, fp, by rw [HN.out, HQ.out, List.append_nil]; exact hO, Hsep.out⟩
     case measure => simp [intOf]; omega
    ·have HQ : Hid (stepNums s = [nm s.ia s.eg]) := sn01 g1 g2
     go_wp2
     go_region_held3 (fun w' => w'.cell? ⟨g, o + k * 3, none⟩ = some (I s.ia) ∧ w'.cell? ⟨g, o + k * 3 + 1, none⟩ = some (I s.ing) ∧ w'.cell? ⟨g, o + k * 3 + 2, none⟩ = some (I s.eg))
      (first | exact ⟨c0, c1, c2⟩ | exact ⟨ck (ext_alloc1 _ _) c0, ck (ext_alloc1 _ _) c1, ck (ext_alloc1 _ _) c2⟩ | exact ⟨a0, a1, a2⟩ | go_keep)
      ((refine step_cat int_flat (.tmp 42) (.tmp 55) et_int (SlO.drew (SlO.alloc hO _)) ((lit_read wo 3 I one_int [IntKind.i64.wrap (IntKind.i64.wrap (8 * s.ia) + s.eg)] 1 (Nat.le_refl _) wo.heap.size 1 rfl rfl #[.int .i64 (IntKind.i64.wrap (IntKind.i64.wrap (8 * s.ia) + s.eg))] rfl).below (below_drew _)) (by simp; omega) (by simp [maxLen]; omega) (by simp; omega) (by rfl) (by rfl) (by rfl) (by rfl) ?_; intro v2 w2 fp2 hO2 hfp2 hkp2; rw [nm_w] at hO2; have a0 := hkp2.ck (show (World.drew (World.alloc wo _)).cell? ⟨g, o + k * 3, none⟩ = some (I s.ia) from ck (ext_alloc1 _ _) c0) hgn; have a1 := hkp2.ck (show (World.drew (World.alloc wo _)).cell? ⟨g, o + k * 3 + 1, none⟩ = some (I s.ing) from ck (ext_alloc1 _ _) c1) hgn; have a2 := hkp2.ck (show (World.drew (World.alloc wo _)).cell? ⟨g, o + k * 3 + 2, none⟩ = some (I s.eg) from ck (ext_alloc1 _ _) c2) hgn))
     have x2 : Below w.heap.size w w2 := ((ext_alloc hb _).drew).trans (hkp2.below (fun b hb => by have := (hlo.out b hb).1; omega) (by simp; omega)); have hS2 := (HS.out.alloc (.cells #[.int .i64 (IntKind.i64.wrap (IntKind.i64.wrap (8 * s.ia) + s.eg))] 3)).drew.kept hkp2 Hfd.out
     have hz2 : wo.heap.size ≤ w2.heap.size := by have := hkp2.size; simp at this; omega
     go_wp2
     go_roundw
     case rel => exact ⟨k + 1, by omega, by go_num, x2, by omega, ⟨_, hS2⟩, fp2, by rw [HN.out, HQ.out]; exact hO2, fun b hb => by
      rcases hfp2 b hb with h | h
      ·exact Hsep.out b h
      ·right; simp at h; omega⟩
     case measure => simp [intOf]; omega
   ·go_wp2
    go_region_held3 (fun w' => w'.cell? ⟨g, o + k * 3, none⟩ = some (I s.ia) ∧ w'.cell? ⟨g, o + k * 3 + 1, none⟩ = some (I s.ing) ∧ w'.cell? ⟨g, o + k * 3 + 2, none⟩ = some (I s.eg))
     (first | exact ⟨c0, c1, c2⟩ | exact ⟨ck (ext_alloc1 _ _) c0, ck (ext_alloc1 _ _) c1, ck (ext_alloc1 _ _) c2⟩ | exact ⟨a0, a1, a2⟩ | go_keep)
     ((refine step_cat int_flat (.tmp 21) (.tmp 34) et_int (SlO.drew (SlO.alloc hO _)) ((lit_read wo 3 I one_int [IntKind.i64.wrap (IntKind.i64.wrap (8 * s.ia) + s.ing)] 1 (Nat.le_refl _) wo.heap.size 1 rfl rfl #[.int .i64 (IntKind.i64.wrap (IntKind.i64.wrap (8 * s.ia) + s.ing))] rfl).below (below_drew _)) (by simp; omega) (by simp [maxLen]; omega) (by simp; omega) (by rfl) (by rfl) (by rfl) (by rfl) ?_; intro v2 w2 fp2 hO2 hfp2 hkp2; rw [nm_w] at hO2; have a0 := hkp2.ck (show (World.drew (World.alloc wo _)).cell? ⟨g, o + k * 3, none⟩ = some (I s.ia) from ck (ext_alloc1 _ _) c0) hgn; have a1 := hkp2.ck (show (World.drew (World.alloc wo _)).cell? ⟨g, o + k * 3 + 1, none⟩ = some (I s.ing) from ck (ext_alloc1 _ _) c1) hgn; have a2 := hkp2.ck (show (World.drew (World.alloc wo _)).cell? ⟨g, o + k * 3 + 2, none⟩ = some (I s.eg) from ck (ext_alloc1 _ _) c2) hgn))
    have x2 : Below w.heap.size w w2 := ((ext_alloc hb _).drew).trans (hkp2.below (fun b hb => by have := (hlo.out b hb).1; omega) (by simp; omega)); have hS2 := hid ((HS.out.alloc (.cells #[.int .i64 (IntKind.i64.wrap (IntKind.i64.wrap (8 * s.ia) + s.ing))] 3)).drew.kept hkp2 Hfd.out)
    have hz2 : wo.heap.size ≤ w2.heap.size := by have := hkp2.size; simp at this; omega
    have Hsep2 : Hid (∀ b ∈ fp2, b = w.heap.size + 1 ∨ w1.heap.size ≤ b) := fun b hb => by
     rcases hfp2 b hb with h | h
     ·exact Hsep.out b h
     ·right; simp at h; omega
    cases g2 : (s.eg != 0)
    ·have HQ : Hid (stepNums s = [nm s.ia s.ing]) := sn10 g1 g2
     go_wp2
     go_roundw
     case rel => exact ⟨k + 1, by omega, by go_num, x2, by omega, ⟨_, hS2.out⟩, fp2, by rw [HN.out, HQ.out]; exact hO2, Hsep2.out⟩
     case measure => simp [intOf]; omega
    ·have HQ : Hid (stepNums s = [nm s.ia s.ing] ++ [nm s.ia s.eg]) := sn11 g1 g2
     have hgn2 : g ∉ fp2 := fun hm => by rcases Hsep2.out g hm with h | h <;> omega
     have hlo2 := hid fun b hb => (hO2.size_ok b hb)
     have hl2 : (li ++ [nm s.ia s.ing]).length ≤ 2097153 := by simp; omega
     have hx2 := x2.size; obtain ⟨li2, Hli2⟩ : ∃ li2, Hid (li2 = li ++ [nm s.ia s.ing]) := ⟨_, rfl⟩; rw [← Hli2.out] at hO2 hl2; obtain ⟨Av2, cv2, ev2, _⟩ := hO2.form; subst ev2
     have Hfd2 : Hid (∀ b ∈ fps, b ∉ fp2) := fun b hb hm => by have := hfs.out b hb; rcases Hsep2.out b hm with h | h <;> omega
     clear hkp2 hfp2 hO c0 c1 c2
     go_wp2
     go_region_held3 (fun w' => w'.cell? ⟨g, o + k * 3, none⟩ = some (I s.ia) ∧ w'.cell? ⟨g, o + k * 3 + 1, none⟩ = some (I s.ing) ∧ w'.cell? ⟨g, o + k * 3 + 2, none⟩ = some (I s.eg))
      (first | exact ⟨a0, a1, a2⟩ | exact ⟨ck (ext_alloc1 _ _) a0, ck (ext_alloc1 _ _) a1, ck (ext_alloc1 _ _) a2⟩ | exact ⟨b0, b1, b2⟩ | go_keep)
      ((refine step_cat int_flat (.tmp 42) (.tmp 55) et_int (SlO.drew (SlO.alloc hO2 _)) ((lit_read w2 3 I one_int [IntKind.i64.wrap (IntKind.i64.wrap (8 * s.ia) + s.eg)] 1 (Nat.le_refl _) w2.heap.size 1 rfl rfl #[.int .i64 (IntKind.i64.wrap (IntKind.i64.wrap (8 * s.ia) + s.eg))] rfl).below (below_drew _)) (by simp; omega) (by simp [maxLen]; omega) (by simp; omega) (by rfl) (by rfl) (by rfl) (by rfl) ?_; intro v3 w3 fp3 hO3 hfp3 hkp3; rw [nm_w] at hO3; have b0 := hkp3.ck (show (World.drew (World.alloc w2 _)).cell? ⟨g, o + k * 3, none⟩ = some (I s.ia) from ck (ext_alloc1 _ _) a0) hgn2; have b1 := hkp3.ck (show (World.drew (World.alloc w2 _)).cell? ⟨g, o + k * 3 + 1, none⟩ = some (I s.ing) from ck (ext_alloc1 _ _) a1) hgn2; have b2 := hkp3.ck (show (World.drew (World.alloc w2 _)).cell? ⟨g, o + k * 3 + 2, none⟩ = some (I s.eg) from ck (ext_alloc1 _ _) a2) hgn2))
     have x3 : Below w.heap.size w w3 := ((ext_alloc x2 _).drew).trans (hkp3.below (fun b hb => by have := (hlo2.out b hb).1; omega) (by simp; omega)); have hS3 := (hS2.out.alloc (.cells #[.int .i64 (IntKind.i64.wrap (IntKind.i64.wrap (8 * s.ia) + s.eg))] 3)).drew.kept hkp3 Hfd2.out
     have hz3 : w2.heap.size ≤ w3.heap.size := by have := hkp3.size; simp at this; omega
     go_wp2
     go_roundw
     case rel => exact ⟨k + 1, by omega, by go_num, x3, by omega, ⟨_, hS3⟩, fp3, by rw [HN.out, HQ.out, ← List.append_assoc, ← Hli2.out]; exact hO3, fun b hb => by
      rcases hfp3 b hb with h | h
      ·exact Hsep2.out b h
      ·right; simp at h; omega⟩
     case measure => simp [intOf]; omega
  ·have hkn : k = n := by omega
   subst hkn; rw [H.out, List.take_length] at hO
   go_wp2
   go_ret
   exact ⟨_, fp, rfl, hO.mono (by omega), hb⟩
/-- How many interfaces of a are interfaces of b. -/
def shared (a b : List Int) : Nat := (a.filter fun x => b.contains x).length
theorem shared_succ {a b : List Int} {k : Nat} {x : Int} (h : a[k]? = some x) : shared (a.take (k + 1)) b = shared (a.take k) b + (if b.contains x then 1 else 0) := by
  rw [take_succ h]; unfold shared; rw [List.filter_append, List.length_append]
  cases hb : b.contains x <;> simp at hb <;> simp [hb]
theorem shared_le (a b : List Int) : shared a b ≤ a.length := by unfold shared; exact List.length_filter_le _ _
set_option maxRecDepth 100000 in
set_option maxHeartbeats 2000000 in
theorem impl_SharedInterfaces (a : Path) (cs : List Value) (b : Path) (ds : List Value) (w : World) (h : pathT.R w cs a) (hz : sz_path a ≤ 1048576) (hl : lenOk_path a) (hg : rng_path a) (h' : pathT.R w ds b) (hz' : sz_path b ≤ 1048576) (hl' : lenOk_path b) (hg' : rng_path b) :
  Calls Tryz.prog 34 #[.agg cs.toArray, .agg ds.toArray] w fun e w' => e = .returned (I (shared (nums (pathSteps a)) (nums (pathSteps b)) : Int)) ∧ Below w.heap.size w w' := by
 have ha0 := h; have hb0 := h'; obtain ⟨A, c, rfl, _⟩ := path_form h; obtain ⟨B, d, rfl, _⟩ := path_form h'; have ha := Nat.le_trans (pathSteps_len a) hz; have hb := Nat.le_trans (pathSteps_len b) hz'
 have HA := hid fun w' (hw : Below w.heap.size w w') => impl_InterfacesUsed a _ w' (pathT.kp ha0 hw) hz hl hg
 have HB := hid fun w' (hw : Below w.heap.size w w') => impl_InterfacesUsed b _ w' (pathT.kp hb0 hw) hz' hl' hg'
 have hla : (nums (pathSteps a)).length ≤ 2097152 := by have := nums_len (pathSteps a); omega
 have hlb : (nums (pathSteps b)).length ≤ 2097152 := by have := nums_len (pathSteps b); omega
 obtain ⟨x, Hx⟩ : ∃ x, Hid (x = nums (pathSteps a)) := ⟨_, rfl⟩; obtain ⟨y, Hy⟩ : ∃ y, Hid (y = nums (pathSteps b)) := ⟨_, rfl⟩; rw [← Hx.out] at HA hla ⊢; rw [← Hy.out] at HB hlb ⊢; obtain ⟨na, Hna⟩ : ∃ n, Hid (n = List.length a) := ⟨_, rfl⟩; obtain ⟨nb, Hnb⟩ : ∃ n, Hid (n = List.length b) := ⟨_, rfl⟩; rw [← Hna.out] at HA ⊢; rw [← Hnb.out] at HB ⊢; clear hz hl hg hz' hl' hg' h h' ha0 hb0 ha hb; obtain ⟨W, HW⟩ : ∃ W, Hid (W = (w.alloc (.cells #[.slice A na c] 38)).alloc (.cells #[.slice B nb d] 38)) := ⟨_, rfl⟩
 have x0 : Below w.heap.size w W := by rw [HW.out]; exact ext_alloc (ext_alloc1 _ _) _
 have p0 := hid (show W.cell? ⟨w.heap.size, 0, none⟩ = some (.slice A na c) by rw [HW.out]; simp); have p1 := hid (show W.cell? ⟨w.heap.size + 1, 0, none⟩ = some (.slice B nb d) by rw [HW.out]; simp)
 go_enter Tryz.func34, Tryz.ntmps34
 go_wp2_with (fail)
 rw [← HW.out]; refine (HB.out W x0).mono ?_; rintro e w1 ⟨v1, fp1, rfl, hO1, hb1⟩; have q0 := ck hb1 p0.out; have q1 := ck hb1 p1.out; have x1 := ext_trans x0 hb1
 go_wp2_with (fail)
 refine (HA.out w1 x1).mono ?_; rintro e w2 ⟨v2, fp2, rfl, hO2, hb2⟩; have x2 := ext_trans x1 hb2; have hO1' := hO1.below hb2; obtain ⟨A1, d1, rfl, _⟩ := hO1'.form; obtain ⟨A2, d2, rfl, _⟩ := hO2.form; have hX := hO2.read; have hY := hO1'.read; clear hO1 hO2 hO1' q0 q1 hb1 hb2 x0 x1 HA HB; obtain ⟨n, H⟩ : ∃ n, Hid (n = x.length) := ⟨_, rfl⟩; obtain ⟨m, Hm⟩ : ∃ n, Hid (n = y.length) := ⟨_, rfl⟩; rw [← H.out] at hX hla ⊢; rw [← Hm.out] at hY ⊢
 go_wp2
 go_loop [6, 14] (fun t i => ∃ k : Nat, k ≤ n ∧ i = I k ∧ t = I (shared (x.take k) y : Int)) (fun _ i => n - (intOf i).toNat)
 case atStart => exact ⟨0, by omega, rfl, rfl⟩
 case round =>
  obtain ⟨k, hk, rfl, rfl⟩ := hrel
  by_cases hlt : k < n
  ·obtain ⟨g, o, q, z, e, hg, hzk, c0⟩ := int_at hX (by rw [← H.out]; exact hlt); rw [← H.out] at e; cases e; have HS := hid (shared_succ (b := y) hzk.out); have hsl : shared (x.take k) y ≤ 2097152 := Nat.le_trans (shared_le _ _) (by rw [List.length_take]; omega); obtain ⟨t, Ht⟩ : ∃ t, Hid (t = shared (x.take k) y) := ⟨_, rfl⟩; rw [← Ht.out] at hsl HS ⊢; have HH := hid (impl_hasInt y _ z w2 hY (by omega)); obtain ⟨bb, Hbb⟩ : ∃ bb, Hid (bb = y.contains z) := ⟨_, rfl⟩; rw [← Hbb.out] at HH HS; cases bb
   ·go_wp2_with (go_at_call 80; refine HH.out.mono ?_; rintro e w3 ⟨rfl, rfl⟩)
    go_round
    case rel => exact ⟨k + 1, by omega, by go_num, by rw [HS.out]; rfl⟩
    case measure => simp [intOf]; omega
   ·go_wp2_with (go_at_call 80; refine HH.out.mono ?_; rintro e w3 ⟨rfl, rfl⟩)
    go_round
    case rel => exact ⟨k + 1, by omega, by go_num, by rw [HS.out]; simp⟩
    case measure => simp [intOf]; omega
  ·have hkn : k = n := by omega
   subst hkn
   go_wp2
   go_ret
   exact ⟨by rw [H.out, List.take_length]; rfl, x2⟩
set_option maxRecDepth 100000 in
set_option maxHeartbeats 2000000 in
theorem spec_SharedInterfaces (a : Path) (cs : List Value) (b : Path) (ds : List Value) (w : World) (h : pathT.R w cs a) (hz : sz_path a ≤ 1048576) (hl : lenOk_path a) (hg : rng_path a) (h' : pathT.R w ds b) (hz' : sz_path b ≤ 1048576) (hl' : lenOk_path b) (hg' : rng_path b) :
  Calls Tryz.prog 35 #[.agg cs.toArray, .agg ds.toArray] w fun e w' => e = .returned (I (shared (nums (pathSteps a)) (nums (pathSteps b)) : Int)) ∧ Below w.heap.size w w' := by
 have ha0 := h; have hb0 := h'; obtain ⟨A, c, rfl, _⟩ := path_form h; obtain ⟨B, d, rfl, _⟩ := path_form h'; have ha := Nat.le_trans (pathSteps_len a) hz; have hb := Nat.le_trans (pathSteps_len b) hz'
 have HA := hid fun w' (hw : Below w.heap.size w w') => spec_InterfacesUsed a _ w' (pathT.kp ha0 hw) hz hl hg
 have HB := hid fun w' (hw : Below w.heap.size w w') => spec_InterfacesUsed b _ w' (pathT.kp hb0 hw) hz' hl' hg'
 have hla : (nums (pathSteps a)).length ≤ 2097152 := by have := nums_len (pathSteps a); omega
 have hlb : (nums (pathSteps b)).length ≤ 2097152 := by have := nums_len (pathSteps b); omega
 obtain ⟨x, Hx⟩ : ∃ x, Hid (x = nums (pathSteps a)) := ⟨_, rfl⟩; obtain ⟨y, Hy⟩ : ∃ y, Hid (y = nums (pathSteps b)) := ⟨_, rfl⟩; rw [← Hx.out] at HA hla ⊢; rw [← Hy.out] at HB hlb ⊢; obtain ⟨na, Hna⟩ : ∃ n, Hid (n = List.length a) := ⟨_, rfl⟩; obtain ⟨nb, Hnb⟩ : ∃ n, Hid (n = List.length b) := ⟨_, rfl⟩; rw [← Hna.out] at HA ⊢; rw [← Hnb.out] at HB ⊢; clear hz hl hg hz' hl' hg' h h' ha0 hb0 ha hb; obtain ⟨W, HW⟩ : ∃ W, Hid (W = (w.alloc (.cells #[.slice A na c] 38)).alloc (.cells #[.slice B nb d] 38)) := ⟨_, rfl⟩
 have x0 : Below w.heap.size w W := by rw [HW.out]; exact ext_alloc (ext_alloc1 _ _) _
 have p0 := hid (show W.cell? ⟨w.heap.size, 0, none⟩ = some (.slice A na c) by rw [HW.out]; simp); have p1 := hid (show W.cell? ⟨w.heap.size + 1, 0, none⟩ = some (.slice B nb d) by rw [HW.out]; simp)
 go_enter Tryz.func35, Tryz.ntmps35
 go_wp2_with (fail)
 rw [← HW.out]; refine (HA.out W x0).mono ?_; rintro e w1 ⟨v1, fp1, rfl, hO1, hb1⟩; have q0 := ck hb1 p0.out; have q1 := ck hb1 p1.out; have x1 := ext_trans x0 hb1
 go_wp2_with (fail)
 refine (HB.out w1 x1).mono ?_; rintro e w2 ⟨v2, fp2, rfl, hO2, hb2⟩; have x2 := ext_trans x1 hb2; have hO1' := hO1.below hb2; obtain ⟨A1, d1, rfl, _⟩ := hO1'.form; obtain ⟨A2, d2, rfl, _⟩ := hO2.form; have hX := hO1'.read; have hY := hO2.read; clear hO1 hO2 hO1' q0 q1 hb1 hb2 x0 x1 HA HB; obtain ⟨n, H⟩ : ∃ n, Hid (n = x.length) := ⟨_, rfl⟩; obtain ⟨m, Hm⟩ : ∃ n, Hid (n = y.length) := ⟨_, rfl⟩; rw [← H.out] at hX hla ⊢; rw [← Hm.out] at hY ⊢
 go_wp2
 go_loop [5, 8] (fun t i => ∃ k : Nat, k ≤ n ∧ i = I k ∧ t = I (shared (x.take k) y : Int)) (fun _ i => n - (intOf i).toNat)
 case atStart => exact ⟨0, by omega, rfl, rfl⟩
 case round =>
  obtain ⟨k, hk, rfl, rfl⟩ := hrel
  by_cases hlt : k < n
  ·obtain ⟨g, o, q, z, e, hg, hzk, c0⟩ := int_at hX (by rw [← H.out]; exact hlt); rw [← H.out] at e; cases e; have HS := hid (shared_succ (b := y) hzk.out); have hsl : shared (x.take k) y ≤ 2097152 := Nat.le_trans (shared_le _ _) (by rw [List.length_take]; omega); obtain ⟨t, Ht⟩ : ∃ t, Hid (t = shared (x.take k) y) := ⟨_, rfl⟩; rw [← Ht.out] at hsl HS ⊢; have HH := hid (spec_l9Has y _ z w2 hY (by omega)); obtain ⟨bb, Hbb⟩ : ∃ bb, Hid (bb = y.contains z) := ⟨_, rfl⟩; rw [← Hbb.out] at HH HS; cases bb
   ·go_wp2_with (go_at_call 82; refine HH.out.mono ?_; rintro e w3 ⟨rfl, rfl⟩)
    go_round
    case rel => exact ⟨k + 1, by omega, by go_num, by rw [HS.out]; rfl⟩
    case measure => simp [intOf]; omega
   ·go_wp2_with (go_at_call 82; refine HH.out.mono ?_; rintro e w3 ⟨rfl, rfl⟩)
    go_round
    case rel => exact ⟨k + 1, by omega, by go_num, by rw [HS.out]; simp⟩
    case measure => simp [intOf]; omega
  ·have hkn : k = n := by omega
   subst hkn
   go_wp2
   go_ret
   exact ⟨by rw [H.out, List.take_length]; rfl, x2⟩
theorem idx_lt (l : List Lnk) (r d : Int) : idxI (findL l r d) < l.length := by
  unfold idxI findL
  split
  · omega
  · rename_i i h
    have := (List.findIdx?_eq_some_iff_getElem.1 h).1
    omega
theorem idx_nat {l : List Lnk} {r d : Int} (h : ¬ idxI (findL l r d) < 0) : findL l r d = some (idxI (findL l r d)).toNat := by
  cases hf : findL l r d with
  | none => rw [hf] at h; simp [idxI] at h
  | some i => simp [idxI]
theorem idx_none {l : List Lnk} {r d : Int} (h : idxI (findL l r d) < 0) : findL l r d = none := by
  cases hf : findL l r d with
  | none => rfl
  | some i => rw [hf] at h; simp [idxI] at h; omega
theorem remote_none {t : Topo} {r d : Int} (h : idxI (findL t.links r d) < 0) : remote t r d = (-1, 0) := by
  unfold remote; rw [idx_none h]; rfl
theorem remote_some {t : Topo} {r d : Int} {x : Lnk} (h : ¬ idxI (findL t.links r d) < 0) (hx : t.links[(idxI (findL t.links r d)).toNat]? = some x) : remote t r d = if x.a = r ∧ x.ai = d then (x.b, x.bi) else (x.a, x.ai) := by
  unfold remote
  rw [show (findL t.links r d).bind (t.links[·]?) = some x by rw [idx_nat h]; exact hx]
theorem ret_two {a b : Int} {q : Int × Int} (h : q = (a, b)) : Ending.returned (.tuple #[I a, I b]) = .returned (.tuple #[I q.1, I q.2]) := by rw [h]
theorem impl_RemoteEnd (t : Topo) (v : Value) (r d : Int) (w : World) (h : VA topoT w v t) (hz : sz_topo t ≤ 1048576) : Calls Tryz.prog 153 #[v, I r, I d] w fun e w' => e = .returned (.tuple #[I (remote t r d).1, I (remote t r d).2]) ∧ Below w.heap.size w w' := by
 have hlt := idx_lt t.links r d; have X0 := Below.refl w.heap.size w; refine enter Tryz.func153 rfl Tryz.ntmps153 rfl ?_; refine w_h ?_; refine t_boxr ‹_› rfl ?_ rfl rfl; intro p3 w1 x2 hp3; replace h := h.below x2; have X0 := ext_trans X0 x2; have S := Sep.nil w1; have B := Below.refl w1.heap.size w1; have Hb := Nat.le_refl w1.heap.size; (iterate 2 refine t_a rfl ?_ rfl); refine t_k ?_; refine t_lda ‹_› ab_topo sb_topo B rfl ?_ rfl; intro v10 hv10; obtain ⟨v10_0, v10_1, rfl, hv10_0, hv10_1⟩ := topo_va hv10; (iterate 2 refine t_m rfl ?_ rfl); refine t_x Tryz.call67 rfl (va1 (by first | assumption | exact VA.below ‹_› B | exact topo_mkv (by first | assumption | exact SlR.below ‹_› B) (by first | assumption | exact SlR.below ‹_› B)) fun cs h => impl_LinkIndex _ cs _ _ _ h (by omega)) ?_ rfl rfl; intro w3 x4; have B := bx Hb B x4; have S := S.below x4; refine t_a rfl ?_ rfl; refine t_e ?_; (iterate 2 refine w_s ?_); refine w_g ?_; refine t_m rfl ?_ rfl; refine t_lss rfl rfl ?_ rfl; refine t_e ?_; refine w_if rfl ?_ ?_
 ·intro h1; refine w_h ?_; (iterate 2 refine t_a rfl ?_ rfl); refine t_e ?_; refine w_r ?_; refine x_t ?_; refine x_ret2 rfl rfl rfl ?_; exact ⟨ret_two (remote_none h1), ext_trans X0 B⟩
 ·intro h1; refine w_k ?_; refine x_s ?_; refine w_h ?_; refine t_fld ln_topo_1 ‹_› fb_topo_1 rfl ?_ rfl; intro p16 hp16; refine t_lds ‹_› ab_s_link B rfl ?_ rfl; intro v17 hv17; refine t_m rfl ?_ rfl; obtain ⟨e19, he19⟩ : ∃ e, (t.links)[(idxI (findL t.links r d)).toNat]? = some e := getx (by omega); refine t_idx e_link (k := (idxI (findL t.links r d)).toNat) ‹_› he19 B rfl rfl (by first | rfl | omega) ?_ rfl; intro p19 hp19; refine t_lda ‹_› ab_link sb_link B rfl ?_ rfl; intro v20 hv20; obtain rfl := link_va hv20; refine t_w S z_link rfl ?_ rfl rfl; intro g9 w5 x6 S; have B := bx Hb B x6; refine t_stn S sb_link rfl rfl rfl rfl (by simp [Value.oneCell']) ?_; intro w7 b8 S; have B := B.trans b8; refine t_e ?_; (iterate 2 refine w_s ?_); refine w_g ?_; refine t_y fb_link_0 rfl rfl ?_ rfl; refine t_bx1 S.box ab_int rfl rfl ?_ rfl; refine t_m rfl ?_ rfl; refine t_eql rfl rfl ?_ rfl; refine t_m rfl ?_ rfl; have hR := remote_some h1 he19; refine t_partp (t := 25) rfl ?_ ?_
  ·intro h2; refine t_on rfl rfl ?_; refine t_y fb_link_1 rfl rfl ?_ rfl; refine t_on rfl rfl ?_; refine t_bx1 S.box ab_int rfl rfl ?_ rfl; refine t_on rfl rfl ?_; refine t_m rfl ?_ rfl; refine t_on rfl rfl ?_; refine t_eql rfl rfl ?_ rfl; refine t_q rfl rfl ?_ rfl; refine t_e ?_; refine w_if rfl ?_ ?_
   ·intro h3; refine w_s ?_; refine w_draw (.st .take 0 (.st .take 1 (.st .take 2 (.st .take 3 (.st .take 4 (.st .take 5 .done)))))) mixed (by kernel_rfl) ?_; intro w9 x10; have B := bx Hb B x10; have S := S.below x10; refine t_y fb_link_2 rfl rfl ?_ rfl; refine t_bx1 S.box ab_int rfl rfl ?_ rfl; refine t_y fb_link_3 rfl rfl ?_ rfl; refine t_bx1 S.box ab_int rfl rfl ?_ rfl; (iterate 2 refine t_a rfl ?_ rfl); refine t_e' ?_; refine w_r ?_; refine x_t ?_; refine x_ret2 rfl rfl rfl ?_; exact ⟨ret_two (by rw [hR, if_pos ⟨h2, h3⟩]), ext_trans X0 B⟩
   ·intro h3; refine w_k ?_; refine x_s ?_; refine w_s ?_; refine w_draw (.st .take 0 (.st .take 1 (.st .take 2 (.st .take 3 (.st .take 4 (.st .take 5 .done)))))) mixed (by kernel_rfl) ?_; intro w11 x12; have B := bx Hb B x12; have S := S.below x12; refine t_y fb_link_0 rfl rfl ?_ rfl; refine t_bx1 S.box ab_int rfl rfl ?_ rfl; refine t_y fb_link_1 rfl rfl ?_ rfl; refine t_bx1 S.box ab_int rfl rfl ?_ rfl; (iterate 2 refine t_a rfl ?_ rfl); refine t_e' ?_; refine w_r ?_; refine x_ret2 rfl rfl rfl ?_; exact ⟨ret_two (by rw [hR, if_neg fun q => h3 q.2]), ext_trans X0 B⟩
  ·intro h2; (iterate 4 refine t_off rfl rfl rfl ?_ rfl); refine t_p rfl rfl ?_ rfl; refine t_e ?_; refine w_no rfl ?_; refine w_k ?_; refine x_s ?_; refine w_s ?_; refine w_draw (.st .take 0 (.st .take 1 (.st .take 2 (.st .take 3 (.st .take 4 (.st .take 5 .done)))))) mixed (by kernel_rfl) ?_; intro w13 x14; have B := bx Hb B x14; have S := S.below x14; refine t_y fb_link_0 rfl rfl ?_ rfl; refine t_bx1 S.box ab_int rfl rfl ?_ rfl; refine t_y fb_link_1 rfl rfl ?_ rfl; refine t_bx1 S.box ab_int rfl rfl ?_ rfl; (iterate 2 refine t_a rfl ?_ rfl); refine t_e' ?_; refine w_r ?_; refine x_ret2 rfl rfl rfl ?_; exact ⟨ret_two (by rw [hR, if_neg fun q => h2 q.1]), ext_trans X0 B⟩
theorem spec_RemoteEnd (t : Topo) (v : Value) (r d : Int) (w : World) (h : VA topoT w v t) (hz : sz_topo t ≤ 1048576) : Calls Tryz.prog 140 #[v, I r, I d] w fun e w' => e = .returned (.tuple #[I (remote t r d).1, I (remote t r d).2]) ∧ Below w.heap.size w w' := by
 have hlt := idx_lt t.links r d; have X0 := Below.refl w.heap.size w; refine enter Tryz.func140 rfl Tryz.ntmps140 rfl ?_; refine w_h ?_; refine t_boxr ‹_› rfl ?_ rfl rfl; intro p3 w15 x16 hp3; replace h := h.below x16; have X0 := ext_trans X0 x16; have S := Sep.nil w15; have B := Below.refl w15.heap.size w15; have Hb := Nat.le_refl w15.heap.size; (iterate 2 refine t_a rfl ?_ rfl); refine t_k ?_; refine t_lda ‹_› ab_topo sb_topo B rfl ?_ rfl; intro v10 hv10; obtain ⟨v10_0, v10_1, rfl, hv10_0, hv10_1⟩ := topo_va hv10; (iterate 2 refine t_m rfl ?_ rfl); refine t_x Tryz.call168 rfl (va1 (by first | assumption | exact VA.below ‹_› B | exact topo_mkv (by first | assumption | exact SlR.below ‹_› B) (by first | assumption | exact SlR.below ‹_› B)) fun cs h => spec_LinkIndex _ cs _ _ _ h (by omega)) ?_ rfl rfl; intro w17 x18; have B := bx Hb B x18; have S := S.below x18; refine t_a rfl ?_ rfl; refine t_e ?_; (iterate 2 refine w_s ?_); refine w_g ?_; refine t_m rfl ?_ rfl; refine t_lss rfl rfl ?_ rfl; refine t_e ?_; refine w_if rfl ?_ ?_
 ·intro h1; refine w_h ?_; (iterate 2 refine t_a rfl ?_ rfl); refine t_e ?_; refine w_r ?_; refine x_t ?_; refine x_ret2 rfl rfl rfl ?_; exact ⟨ret_two (remote_none h1), ext_trans X0 B⟩
 ·intro h1; refine w_k ?_; refine x_s ?_; refine w_h ?_; refine t_fld ln_topo_1 ‹_› fb_topo_1 rfl ?_ rfl; intro p16 hp16; refine t_lds ‹_› ab_s_link B rfl ?_ rfl; intro v17 hv17; refine t_m rfl ?_ rfl; obtain ⟨e19, he19⟩ : ∃ e, (t.links)[(idxI (findL t.links r d)).toNat]? = some e := getx (by omega); refine t_idx e_link (k := (idxI (findL t.links r d)).toNat) ‹_› he19 B rfl rfl (by first | rfl | omega) ?_ rfl; intro p19 hp19; refine t_lda ‹_› ab_link sb_link B rfl ?_ rfl; intro v20 hv20; obtain rfl := link_va hv20; refine t_w S z_link rfl ?_ rfl rfl; intro g9 w19 x20 S; have B := bx Hb B x20; refine t_stn S sb_link rfl rfl rfl rfl (by simp [Value.oneCell']) ?_; intro w21 b22 S; have B := B.trans b22; refine t_e ?_; (iterate 2 refine w_s ?_); refine w_g ?_; refine t_y fb_link_0 rfl rfl ?_ rfl; refine t_bx1 S.box ab_int rfl rfl ?_ rfl; refine t_m rfl ?_ rfl; refine t_eql rfl rfl ?_ rfl; refine t_m rfl ?_ rfl; have hR := remote_some h1 he19; refine t_partp (t := 25) rfl ?_ ?_
  ·intro h2; refine t_on rfl rfl ?_; refine t_y fb_link_1 rfl rfl ?_ rfl; refine t_on rfl rfl ?_; refine t_bx1 S.box ab_int rfl rfl ?_ rfl; refine t_on rfl rfl ?_; refine t_m rfl ?_ rfl; refine t_on rfl rfl ?_; refine t_eql rfl rfl ?_ rfl; refine t_q rfl rfl ?_ rfl; refine t_e ?_; refine w_if rfl ?_ ?_
   ·intro h3; refine w_s ?_; refine w_draw (.st .take 0 (.st .take 1 (.st .take 2 (.st .take 3 (.st .take 4 (.st .take 5 .done)))))) mixed (by kernel_rfl) ?_; intro w23 x24; have B := bx Hb B x24; have S := S.below x24; refine t_y fb_link_2 rfl rfl ?_ rfl; refine t_bx1 S.box ab_int rfl rfl ?_ rfl; refine t_y fb_link_3 rfl rfl ?_ rfl; refine t_bx1 S.box ab_int rfl rfl ?_ rfl; (iterate 2 refine t_a rfl ?_ rfl); refine t_e' ?_; refine w_r ?_; refine x_t ?_; refine x_ret2 rfl rfl rfl ?_; exact ⟨ret_two (by rw [hR, if_pos ⟨h2, h3⟩]), ext_trans X0 B⟩
   ·intro h3; refine w_k ?_; refine x_s ?_; refine w_s ?_; refine w_draw (.st .take 0 (.st .take 1 (.st .take 2 (.st .take 3 (.st .take 4 (.st .take 5 .done)))))) mixed (by kernel_rfl) ?_; intro w25 x26; have B := bx Hb B x26; have S := S.below x26; refine t_y fb_link_0 rfl rfl ?_ rfl; refine t_bx1 S.box ab_int rfl rfl ?_ rfl; refine t_y fb_link_1 rfl rfl ?_ rfl; refine t_bx1 S.box ab_int rfl rfl ?_ rfl; (iterate 2 refine t_a rfl ?_ rfl); refine t_e' ?_; refine w_r ?_; refine x_ret2 rfl rfl rfl ?_; exact ⟨ret_two (by rw [hR, if_neg fun q => h3 q.2]), ext_trans X0 B⟩
  ·intro h2; (iterate 4 refine t_off rfl rfl rfl ?_ rfl); refine t_p rfl rfl ?_ rfl; refine t_e ?_; refine w_no rfl ?_; refine w_k ?_; refine x_s ?_; refine w_s ?_; refine w_draw (.st .take 0 (.st .take 1 (.st .take 2 (.st .take 3 (.st .take 4 (.st .take 5 .done)))))) mixed (by kernel_rfl) ?_; intro w27 x28; have B := bx Hb B x28; have S := S.below x28; refine t_y fb_link_0 rfl rfl ?_ rfl; refine t_bx1 S.box ab_int rfl rfl ?_ rfl; refine t_y fb_link_1 rfl rfl ?_ rfl; refine t_bx1 S.box ab_int rfl rfl ?_ rfl; (iterate 2 refine t_a rfl ?_ rfl); refine t_e' ?_; refine w_r ?_; refine x_ret2 rfl rfl rfl ?_; exact ⟨ret_two (by rw [hR, if_neg fun q => h2 q.1]), ext_trans X0 B⟩
theorem all_ok {f : Nat → Bool} {n : Nat} (h : ∀ j, j < n → f j = true) : (List.range n).all f = true := by
  rw [List.all_eq_true]; intro x hx; exact h x (List.mem_range.1 hx)
theorem all_no {f : Nat → Bool} {n k : Nat} (hk : k < n) (h : f k = false) : (List.range n).all f = false := by
  rw [List.all_eq_false]; exact ⟨k, List.mem_range.2 hk, by simp [h]⟩
theorem upto_succ {f : Nat → Bool} {k : Nat} (h : ∀ j, j < k → f j = true) (hk : f k = true) : ∀ j, j < k + 1 → f j = true := by
  intro j hj
  rcases Nat.lt_or_ge j k with q | q
  · exact h j q
  · have : j = k := by omega
    subst this; exact hk
def hopGood (t : Topo) (l : List Hop) (k : Nat) : Bool := match l[k]? with
  | none => true
  | some x => validHop x && isAS t x.ia && !((l.take k).map Hop.ia).contains x.ia
def hopsOk (t : Topo) (l : List Hop) : Bool := inR l.length 1 8 && (List.range l.length).all (hopGood t l)
def stepGood (t : Topo) (p : Part) (k : Nat) : Bool := match p.hops[k]?, p.hops[k + 1]? with
  | some x, some y => decide (partOut p k ≠ 0) && decide ((remote t x.ia (partOut p k)).1 = y.ia) && decide ((remote t x.ia (partOut p k)).2 = partIn p (k + 1))
  | _, _ => true
def validPart (t : Topo) (p : Part) : Bool := hopsOk t p.hops && inR p.kind 1 4 && inR p.ts 0 1000000 && inR p.beta 0 2147483646 && (List.range (p.hops.length - 1)).all (stepGood t p)
theorem hopGood_eq {t : Topo} {l : List Hop} {k : Nat} {x : Hop} (h : l[k]? = some x) : hopGood t l k = (validHop x && isAS t x.ia && !((l.take k).map Hop.ia).contains x.ia) := by unfold hopGood; rw [h]
theorem stepGood_eq {t : Topo} {p : Part} {k : Nat} {x y : Hop} (h : p.hops[k]? = some x) (h' : p.hops[k + 1]? = some y) : stepGood t p k = (decide (partOut p k ≠ 0) && decide ((remote t x.ia (partOut p k)).1 = y.ia) && decide ((remote t x.ia (partOut p k)).2 = partIn p (k + 1))) := by unfold stepGood; rw [h, h']
theorem b_link (a b c d e : Int) (w : World) : (Instr.build 90 #[(0, I a), (1, I b), (2, I c), (3, I d), (4, I e)]).run Tryz.prog w = .ok (.agg #[I a, I b, I c, I d, I e]) w := by kernel_rfl
theorem b_asn (a : Int) (b : Bool) (c : Int) (w : World) : (Instr.build 117 #[(0, I a), (1, .bool b), (2, I c)]).run Tryz.prog w = .ok (.agg #[I a, .bool b, I c]) w := by kernel_rfl
theorem bs_link0 (w : World) : (Instr.buildSlice 25 0 #[]).run Tryz.prog w = .ok (.slice (some ⟨w.heap.size, 0, none⟩) 0 0) (w.alloc (.cells #[] 90)) := by kernel_rfl
theorem bs_link1 (c0 c1 c2 c3 c4 : Value) (w : World) : (Instr.buildSlice 25 1 #[(0, .agg #[c0, c1, c2, c3, c4])]).run Tryz.prog w = .ok (.slice (some ⟨w.heap.size, 0, none⟩) 1 1) (w.alloc (.cells #[c0, c1, c2, c3, c4] 90)) := by kernel_rfl
theorem bs_asn1 (c0 c1 c2 : Value) (w : World) : (Instr.buildSlice 24 1 #[(0, .agg #[c0, c1, c2])]).run Tryz.prog w = .ok (.slice (some ⟨w.heap.size, 0, none⟩) 1 1) (w.alloc (.cells #[c0, c1, c2] 117)) := by kernel_rfl
/-- A link more between two realms, where each has a door left. -/
def addL (L : List Lnk) (a c k : Int) : List Lnk :=
  if ((ifs L a).length : Int) + 1 ≤ 6 ∧ ((ifs L c).length : Int) + 1 ≤ 6 then L ++ [⟨a, (ifs L a).length + 1, c, (ifs L c).length + 1, k⟩] else L
theorem addL_len (L : List Lnk) (a c k : Int) : (addL L a c k).length ≤ L.length + 1 := by
  unfold addL; split <;> simp
theorem spec_l5Add {b g : Nat} {w : World} {va vl : Value} {A : List ASd} {L : List Lnk} {os : List Ow} (a c k : Int) (S : Sep b w (bxO g 27 #[va, vl] :: slO asnT 117 va A :: slO linkT 90 vl L :: os)) (hz : L.length ≤ 1000) :
  Calls Tryz.prog 137 #[.pointer (some ⟨g, 0, none⟩), I a, I c, I k] w fun e w' => ∃ v, e = .returned (.tuple #[]) ∧ Sep b w' (bxO g 27 #[va, v] :: slO asnT 117 va A :: slO linkT 90 v (addL L a c k) :: os) ∧ Below b w w' := by
 have l1 := ifs_len L a; have l2 := ifs_len L c; have X0 := Below.refl w.heap.size w; refine enter Tryz.func137 rfl Tryz.ntmps137 rfl ?_; have B := Below.refl b w; have Hb := S.base; refine w_h ?_; refine t_m rfl ?_ rfl; refine t_nilc rfl ?_ rfl; refine t_b S.box ab_topo sb_topo rfl rfl ?_ rfl; refine t_m rfl ?_ rfl; refine t_c Tryz.call166 rfl (spec_Interfaces A L _ _ _ (topo_mkv (S.tail.sl) (S.tail.tail.sl)) (by (try dsimp only); omega)) ?_ rfl rfl; rintro e w1 ⟨v14, fpv14, rfl, hOv14, x2⟩; refine ⟨_, rfl, x2, ?_⟩; have S := S.add (o := slO _ _ _ _) x2 hOv14; have B := bx Hb B x2; refine t_len e_int (S.sl) rfl rfl ?_ rfl; refine t_add rfl rfl (by omega) ?_ rfl; refine t_a rfl ?_ rfl; refine t_k ?_; refine t_m rfl ?_ rfl; refine t_nilc rfl ?_ rfl; refine t_b S.tail.box ab_topo sb_topo rfl rfl ?_ rfl; refine t_m rfl ?_ rfl; refine t_c Tryz.call166 rfl (spec_Interfaces A L _ _ _ (topo_mkv (S.tail.tail.sl) (S.tail.tail.tail.sl)) (by (try dsimp only); omega)) ?_ rfl rfl; rintro e w3 ⟨v21, fpv21, rfl, hOv21, x4⟩; refine ⟨_, rfl, x4, ?_⟩; have S := S.add (o := slO _ _ _ _) x4 hOv21; have B := bx Hb B x4; refine t_len e_int (S.sl) rfl rfl ?_ rfl; refine t_add rfl rfl (by omega) ?_ rfl
 refine t_a rfl ?_ rfl; refine t_k ?_; refine t_m rfl ?_ rfl; refine t_leq rfl rfl ?_ rfl; refine t_m rfl ?_ rfl; refine t_partp (t := 26) rfl ?_ ?_
 ·intro h1; refine t_on rfl rfl ?_; refine t_m rfl ?_ rfl; refine t_on rfl rfl ?_; refine t_leq rfl rfl ?_ rfl; refine t_q rfl rfl ?_ rfl; refine t_e ?_; refine w_if rfl ?_ ?_
  ·intro h2; refine w_g ?_; (iterate 2 refine t_m rfl ?_ rfl); refine t_nilc rfl ?_ rfl; refine t_y fb_topo_1 rfl rfl ?_ rfl; refine t_bx1 S.tail.tail.box ab_s_link rfl rfl ?_ rfl; (iterate 5 refine t_m rfl ?_ rfl); refine t_g (fun w => b_link _ _ _ _ _ w) rfl ?_ rfl; refine t_lit (T := linkT) (l := [(⟨a, ((((ifs L a)).length : Int)) + 1, c, ((((ifs L c)).length : Int)) + 1, k⟩ : Lnk)]) (css := [[I a, I (((((ifs L a)).length : Int)) + 1), I c, I (((((ifs L c)).length : Int)) + 1), I k]]) link_flat S (fun w => bs_link1 _ _ _ _ _ w) rfl rfl rfl rfl (by simp [maxLen]) (litR_one fun _ => rfl) ?_ rfl rfl; intro u41 w5 x6 S; have B := bx Hb B x6; have hR := S.sl; have S := S.f5; refine t_cat link_flat e_link S hR rfl rfl rfl (by first | omega | (simp [-List.length_flatMap]; omega)) (by (simp [maxLen, -List.length_flatMap]; try omega)) ?_ rfl; intro v42 w7 x8 S; have B := B.trans x8; clear hR; have S := S.f1.tail; refine t_nilc rfl ?_ rfl; refine t_y fb_topo_1 rfl rfl ?_ rfl; obtain ⟨Av42, cv42, rfl, _⟩ := S.sl.form; have S := S.f3; refine t_st1 S sb_s_link rfl rfl rfl rfl rfl ?_; intro w9 b10 S; have B := B.trans b10; refine t_d ?_; refine x_end1 ?_; refine x_ret0 rfl ?_
   have hq : addL L a c k = L ++ [⟨a, (ifs L a).length + 1, c, (ifs L c).length + 1, k⟩] := by rw [addL, if_pos ⟨h1, h2⟩]
   exact ⟨_, rfl, by rw [hq]; exact S.f2.tail.f2.tail.f2.f1, B⟩
  ·intro h2; refine w_k ?_; refine x_end1 ?_; refine x_ret0 rfl ?_
   have hq : addL L a c k = L := by rw [addL, if_neg fun z => h2 z.2]
   exact ⟨_, rfl, by rw [hq]; exact S.tail.tail, B⟩
 ·intro h1; (iterate 2 refine t_off rfl rfl rfl ?_ rfl); refine t_p rfl rfl ?_ rfl; refine t_e ?_; refine w_no rfl ?_; refine w_k ?_; refine x_end1 ?_; refine x_ret0 rfl ?_
  have hq : addL L a c k = L := by rw [addL, if_neg fun z => h1 z.1]
  exact ⟨_, rfl, by rw [hq]; exact S.tail.tail, B⟩
theorem as_rng {A : List ASd} {L : List Lnk} {r : Int} (h : ¬ (!(isAS (⟨A, L⟩ : Topo) r)) = true) : 0 ≤ r ∧ r < A.length := by
  have h' : inR r 0 ((A.length : Int) - 1) = true := by simpa [isAS] using h
  have := inR_iff.1 h'
  omega
theorem spec_l5LinkOk (A : List ASd) (L : List Lnk) (v u : Value) (x : Lnk) (w : World) (h : VA topoT w v ⟨A, L⟩) (h2 : VA linkT w u x) (hz : sz_topo (⟨A, L⟩ : Topo) ≤ 1000000) : Calls Tryz.prog 138 #[v, u] w fun e w' => ∃ y : Bool, e = .returned (.bool y) ∧ Below w.heap.size w w' := by
 have X0 := Below.refl w.heap.size w; refine enter Tryz.func138 rfl Tryz.ntmps138 rfl ?_; refine w_h ?_; refine t_boxr ‹_› rfl ?_ rfl rfl; intro p2 w11 x12 hp2; replace h := h.below x12; replace h2 := h2.below x12; have X0 := ext_trans X0 x12; refine t_boxr ‹_› rfl ?_ rfl rfl; intro p3 w13 x14 hp3; replace h := h.below x14; replace h2 := h2.below x14; replace hp2 := hp2.below x14; have X0 := ext_trans X0 x14; have S := Sep.nil w13; have B := Below.refl w13.heap.size w13; have Hb := Nat.le_refl w13.heap.size; refine t_a rfl ?_ rfl; refine t_e ?_; (iterate 2 refine w_s ?_); refine w_g ?_; refine t_lda ‹_› ab_topo sb_topo B rfl ?_ rfl; intro v7 hv7; obtain ⟨v7_0, v7_1, rfl, hv7_0, hv7_1⟩ := topo_va hv7; refine t_fld ln_link_0 ‹_› fb_link_0 rfl ?_ rfl; intro p8 hp8; refine t_ldi ‹_› ab_int B rfl ?_ rfl; refine t_x Tryz.call99 rfl (spec_l5Realm _ _ _ _ (by first | assumption | exact VA.below ‹_› B | exact topo_mkv (by first | assumption | exact SlR.below ‹_› B) (by first | assumption | exact SlR.below ‹_› B)) (by omega)) ?_ rfl rfl; intro w15 x16; have B := bx Hb B x16; have S := S.below x16; refine t_notb rfl ?_ rfl; refine t_m rfl ?_ rfl; refine t_part (t := 12) rfl ?_ ?_
 ·intro hp1; (iterate 5 refine t_off rfl rfl rfl ?_ rfl); refine t_q rfl rfl ?_ rfl; refine t_m rfl ?_ rfl; (iterate 5 refine t_off rfl rfl rfl ?_ rfl); refine t_q rfl rfl ?_ rfl; refine t_m rfl ?_ rfl; (iterate 4 refine t_off rfl rfl rfl ?_ rfl); refine t_q rfl rfl ?_ rfl; refine t_m rfl ?_ rfl; (iterate 4 refine t_off rfl rfl rfl ?_ rfl); refine t_q rfl rfl ?_ rfl; refine t_e ?_; refine w_yes rfl ?_; refine w_h ?_; refine t_a rfl ?_ rfl; refine t_e ?_; refine w_r ?_; refine x_t ?_; refine x_ret1 rfl rfl ?_; exact ⟨_, rfl, ext_trans X0 B⟩
 ·intro hp1; refine t_on rfl rfl ?_; refine t_lda ‹_› ab_topo sb_topo B rfl ?_ rfl; intro v13 hv13; obtain ⟨v13_0, v13_1, rfl, hv13_0, hv13_1⟩ := topo_va hv13; refine t_on rfl rfl ?_; refine t_fld ln_link_2 ‹_› fb_link_2 rfl ?_ rfl; intro p14 hp14; refine t_on rfl rfl ?_; refine t_ldi ‹_› ab_int B rfl ?_ rfl; refine t_on rfl rfl ?_; refine t_x Tryz.call99 rfl (spec_l5Realm _ _ _ _ (by first | assumption | exact VA.below ‹_› B | exact topo_mkv (by first | assumption | exact SlR.below ‹_› B) (by first | assumption | exact SlR.below ‹_› B)) (by omega)) ?_ rfl rfl; intro w17 x18; have B := bx Hb B x18; have S := S.below x18; refine t_on rfl rfl ?_; refine t_notb rfl ?_ rfl; refine t_p rfl rfl ?_ rfl; refine t_m rfl ?_ rfl; refine t_part (t := 19) rfl ?_ ?_
  ·intro hp2; (iterate 5 refine t_off rfl rfl rfl ?_ rfl); refine t_q rfl rfl ?_ rfl; refine t_m rfl ?_ rfl; (iterate 4 refine t_off rfl rfl rfl ?_ rfl); refine t_q rfl rfl ?_ rfl; refine t_m rfl ?_ rfl; (iterate 4 refine t_off rfl rfl rfl ?_ rfl); refine t_q rfl rfl ?_ rfl; refine t_e ?_; refine w_yes rfl ?_; refine w_h ?_; refine t_a rfl ?_ rfl; refine t_e ?_; refine w_r ?_; refine x_t ?_; refine x_ret1 rfl rfl ?_; exact ⟨_, rfl, ext_trans X0 B⟩
  ·intro hp2; have r1 : 0 ≤ x.a ∧ x.a < ((⟨A, L⟩ : Topo).ases.length : Int) := as_rng (L := L) (by simpa using hp1); have r2 : 0 ≤ x.b ∧ x.b < ((⟨A, L⟩ : Topo).ases.length : Int) := as_rng (L := L) (by simpa using hp2); refine t_on rfl rfl ?_; refine t_fld ln_link_0 ‹_› fb_link_0 rfl ?_ rfl; intro p20 hp20; refine t_on rfl rfl ?_; refine t_ldi ‹_› ab_int B rfl ?_ rfl; refine t_on rfl rfl ?_; refine t_fld ln_link_2 ‹_› fb_link_2 rfl ?_ rfl; intro p22 hp22; refine t_on rfl rfl ?_; refine t_ldi ‹_› ab_int B rfl ?_ rfl; refine t_on rfl rfl ?_; refine t_geq rfl rfl ?_ rfl; refine t_p rfl rfl ?_ rfl; refine t_m rfl ?_ rfl; refine t_partp (t := 26) rfl ?_ ?_
   ·intro hc1; (iterate 4 refine t_off rfl rfl rfl ?_ rfl); refine t_q rfl rfl ?_ rfl; refine t_m rfl ?_ rfl; (iterate 4 refine t_off rfl rfl rfl ?_ rfl); refine t_q rfl rfl ?_ rfl; refine t_e ?_; refine w_yes rfl ?_; refine w_h ?_; refine t_a rfl ?_ rfl; refine t_e ?_; refine w_r ?_; refine x_t ?_; refine x_ret1 rfl rfl ?_; exact ⟨_, rfl, ext_trans X0 B⟩
   ·intro hc2; refine t_on rfl rfl ?_; refine t_fld ln_link_1 ‹_› fb_link_1 rfl ?_ rfl; intro p27 hp27; refine t_on rfl rfl ?_; refine t_ldi ‹_› ab_int B rfl ?_ rfl; refine t_on rfl rfl ?_; refine t_calls Tryz.call144 rfl (spec_l1In _ _ _ _) ?_ rfl rfl; refine t_on rfl rfl ?_; refine t_notb rfl ?_ rfl; refine t_p rfl rfl ?_ rfl; refine t_m rfl ?_ rfl; refine t_part (t := 32) rfl ?_ ?_
    ·intro hc3; (iterate 4 refine t_off rfl rfl rfl ?_ rfl); refine t_q rfl rfl ?_ rfl; refine t_e ?_; refine w_yes rfl ?_; refine w_h ?_; refine t_a rfl ?_ rfl; refine t_e ?_; refine w_r ?_; refine x_t ?_; refine x_ret1 rfl rfl ?_; exact ⟨_, rfl, ext_trans X0 B⟩
    ·intro hc4; refine t_on rfl rfl ?_; refine t_fld ln_link_3 ‹_› fb_link_3 rfl ?_ rfl; intro p33 hp33; refine t_on rfl rfl ?_; refine t_ldi ‹_› ab_int B rfl ?_ rfl; refine t_on rfl rfl ?_; refine t_calls Tryz.call144 rfl (spec_l1In _ _ _ _) ?_ rfl rfl; refine t_on rfl rfl ?_; refine t_notb rfl ?_ rfl; refine t_p rfl rfl ?_ rfl; refine t_e ?_; refine w_ifb rfl ?_ ?_
     ·intro hc5; refine w_h ?_; refine t_a rfl ?_ rfl; refine t_e ?_; refine w_r ?_; refine x_t ?_; refine x_ret1 rfl rfl ?_; exact ⟨_, rfl, ext_trans X0 B⟩
     ·intro hc6; refine w_k ?_; refine x_s ?_; refine w_h ?_; refine t_fld ln_topo_0 ‹_› fb_topo_0 rfl ?_ rfl; intro p38 hp38; refine t_lds ‹_› ab_s_asn B rfl ?_ rfl; intro v39 hv39; refine t_fld ln_link_0 ‹_› fb_link_0 rfl ?_ rfl; intro p40 hp40; refine t_ldi ‹_› ab_int B rfl ?_ rfl; obtain ⟨e42, he42⟩ : ∃ e, ((⟨A, L⟩ : Topo).ases)[x.a.toNat]? = some e := getx (by omega); refine t_idx e_asn (k := x.a.toNat) ‹_› he42 B rfl rfl (by first | rfl | omega) ?_ rfl; intro p42 hp42; refine t_lda ‹_› ab_asn sb_asn B rfl ?_ rfl; intro v43 hv43; obtain rfl := asn_va hv43; refine t_w S z_asn rfl ?_ rfl rfl; intro g5 w19 x20 S; have B := bx Hb B x20; refine t_stn S sb_asn rfl rfl rfl rfl (by simp [Value.oneCell']) ?_; intro w21 b22 S; have B := B.trans b22; refine t_k ?_; refine t_fld ln_topo_0 ‹_› fb_topo_0 rfl ?_ rfl; intro p44 hp44; refine t_lds ‹_› ab_s_asn B rfl ?_ rfl; intro v45 hv45; refine t_fld ln_link_2 ‹_› fb_link_2 rfl ?_ rfl; intro p46 hp46; refine t_ldi ‹_› ab_int B rfl ?_ rfl; obtain ⟨e48, he48⟩ : ∃ e, ((⟨A, L⟩ : Topo).ases)[x.b.toNat]? = some e := getx (by omega); refine t_idx e_asn (k := x.b.toNat) ‹_› he48 B rfl rfl (by first | rfl | omega) ?_ rfl; intro p48 hp48
      refine t_lda ‹_› ab_asn sb_asn B rfl ?_ rfl; intro v49 hv49; obtain rfl := asn_va hv49; refine t_w S z_asn rfl ?_ rfl rfl; intro g6 w23 x24 S; have B := bx Hb B x24; refine t_stn S sb_asn rfl rfl rfl rfl (by simp [Value.oneCell']) ?_; intro w25 b26 S; have B := B.trans b26; refine t_e ?_; (iterate 2 refine w_s ?_); refine w_g ?_; refine t_fld ln_link_4 ‹_› fb_link_4 rfl ?_ rfl; intro p50 hp50; refine t_ldi ‹_› ab_int B rfl ?_ rfl; refine t_e ?_; refine w_block ?_; refine w_h ?_; refine t_eql rfl rfl ?_ rfl; refine t_a rfl ?_ rfl; refine t_e ?_; refine w_if rfl ?_ ?_
      ·intro hc7; refine w_h ?_; refine t_y fb_asn_1 rfl rfl ?_ rfl; refine t_bx1 S.tail.box ab_bool rfl rfl ?_ rfl; refine t_m rfl ?_ rfl; refine t_part (t := 56) rfl ?_ ?_
       ·intro hc8; refine t_on rfl rfl ?_; refine t_y fb_asn_1 rfl rfl ?_ rfl; refine t_on rfl rfl ?_; refine t_bx1 S.box ab_bool rfl rfl ?_ rfl; refine t_q rfl rfl ?_ rfl; refine t_a rfl ?_ rfl; refine t_e ?_; refine w_r ?_; refine x_block_ret ?_; refine x_t ?_; refine x_ret1 rfl rfl ?_; exact ⟨_, rfl, ext_trans X0 B⟩
       ·intro hc9; (iterate 2 refine t_off rfl rfl rfl ?_ rfl); refine t_p rfl rfl ?_ rfl; refine t_a rfl ?_ rfl; refine t_e ?_; refine w_r ?_; refine x_block_ret ?_; refine x_t ?_; refine x_ret1 rfl rfl ?_; exact ⟨_, rfl, ext_trans X0 B⟩
      ·intro hc10; refine w_h ?_; refine t_eql rfl rfl ?_ rfl; refine t_a rfl ?_ rfl; refine t_e ?_; refine w_if rfl ?_ ?_
       ·intro hc11; refine w_h ?_; refine t_y fb_asn_0 rfl rfl ?_ rfl; refine t_bx1 S.tail.box ab_int rfl rfl ?_ rfl; refine t_y fb_asn_0 rfl rfl ?_ rfl; refine t_bx1 S.box ab_int rfl rfl ?_ rfl; refine t_eql rfl rfl ?_ rfl; refine t_m rfl ?_ rfl; refine t_partp (t := 67) rfl ?_ ?_
        ·intro hc12; refine t_on rfl rfl ?_; refine t_y fb_asn_1 rfl rfl ?_ rfl; refine t_on rfl rfl ?_; refine t_bx1 S.box ab_bool rfl rfl ?_ rfl; refine t_on rfl rfl ?_; refine t_notb rfl ?_ rfl; refine t_q rfl rfl ?_ rfl; refine t_a rfl ?_ rfl; refine t_e ?_; refine w_r ?_; refine x_block_ret ?_; refine x_t ?_; refine x_ret1 rfl rfl ?_; exact ⟨_, rfl, ext_trans X0 B⟩
        ·intro hc13; (iterate 3 refine t_off rfl rfl rfl ?_ rfl); refine t_p rfl rfl ?_ rfl; refine t_a rfl ?_ rfl; refine t_e ?_; refine w_r ?_; refine x_block_ret ?_; refine x_t ?_; refine x_ret1 rfl rfl ?_; exact ⟨_, rfl, ext_trans X0 B⟩
       ·intro hc14; refine w_k ?_; refine x_b ?_; refine x_s ?_; refine w_h ?_; refine t_fld ln_link_4 ‹_› fb_link_4 rfl ?_ rfl; intro p72 hp72; refine t_ldi ‹_› ab_int B rfl ?_ rfl; refine t_eql rfl rfl ?_ rfl; refine t_m rfl ?_ rfl; refine t_partp (t := 75) rfl ?_ ?_
        ·intro hc15; refine t_on rfl rfl ?_; refine t_y fb_asn_1 rfl rfl ?_ rfl; refine t_on rfl rfl ?_; refine t_bx1 S.tail.box ab_bool rfl rfl ?_ rfl; refine t_on rfl rfl ?_; refine t_notb rfl ?_ rfl; refine t_q rfl rfl ?_ rfl; refine t_m rfl ?_ rfl; refine t_part (t := 80) rfl ?_ ?_
         ·intro hc16; refine t_on rfl rfl ?_; refine t_y fb_asn_1 rfl rfl ?_ rfl; refine t_on rfl rfl ?_; refine t_bx1 S.box ab_bool rfl rfl ?_ rfl; refine t_on rfl rfl ?_; refine t_notb rfl ?_ rfl; refine t_q rfl rfl ?_ rfl; refine t_a rfl ?_ rfl; refine t_e ?_; refine w_r ?_; refine x_ret1 rfl rfl ?_; exact ⟨_, rfl, ext_trans X0 B⟩
         ·intro hc17; (iterate 3 refine t_off rfl rfl rfl ?_ rfl); refine t_p rfl rfl ?_ rfl; refine t_a rfl ?_ rfl; refine t_e ?_; refine w_r ?_; refine x_ret1 rfl rfl ?_; exact ⟨_, rfl, ext_trans X0 B⟩
        ·intro hc18; (iterate 3 refine t_off rfl rfl rfl ?_ rfl); refine t_p rfl rfl ?_ rfl; refine t_m rfl ?_ rfl; (iterate 3 refine t_off rfl rfl rfl ?_ rfl); refine t_p rfl rfl ?_ rfl; refine t_a rfl ?_ rfl; refine t_e ?_; refine w_r ?_; refine x_ret1 rfl rfl ?_; exact ⟨_, rfl, ext_trans X0 B⟩
section
variable {P : Program} {n : Nat} {ops : Array Oper} {Q : Exit → Act → World → Prop} {L : Frm} {w : World} {l : List Oper} {T : IT} {d : Nat} {ty : TypeId} {pos : String} {af : Array Edge}
theorem p_lss {x y : Operand} {t t' : TypeId} {kd : IntKind} {a b : Int} (hx : ev L x = some (.int kd a)) (hy : ev L y = some (.int kd b)) (k : WPre P n ops Q l T ((d, .bool (decide (a < b))) :: L) w) (hn : Nat.blt d n = true) : WPre P n ops Q (⟨some d, .binOp .lss t x y t', ty, pos, af, none⟩ :: l) T L w :=
  p_read (fun e ha _ _ _ w' => by simp [execOp, ha.ev hx, ha.ev hy, eqGuard, binOp, Op.intCmp]) k hn
theorem p_fldx {g o o' off : Nat} {s i : Nat} {xo : Operand} (hf : fieldB P s i = some off) (hx : ev L xo = some (.pointer (some ⟨g, o, none⟩))) (ho : o + off = o')
    (kk : WPre P n ops Q l T ((d, .pointer (some ⟨g, o', none⟩)) :: L) w) (hn : Nat.blt d n = true) : WPre P n ops Q (⟨some d, .fieldAddr s xo i, ty, pos, af, none⟩ :: l) T L w := by
  subst ho; refine p_read (fun a ha _ _ _ w' => ?_) kk hn
  unfold fieldB at hf
  split at hf
  · rename_i fs hu
    split at hf
    · rename_i fd hfd
      split at hf
      · rename_i inf hinf
        split at hf
        · cases hf
        · rename_i hne
          cases hf
          simp [execOp, ha.ev hx, Instr.fieldAt, run_underlying hu, hfd, Instr.sureAddr, fieldPlace, sizeOf, typeInfo, hinf, hne, Addr.add_lit]
      · cases hf
    · cases hf
  · cases hf
end
theorem b_topo0 (w : World) : (Instr.build 27 #[]).run Tryz.prog w = .ok (.agg #[.slice none 0 0, .slice none 0 0]) w := by kernel_rfl
theorem rl_asn_0 {x : ASd} : ∀ (w : World) cs, asnT.R w cs x → cs[0]? = some (I x.isd) := fun w cs h => by rw [asn_form h]; rfl
theorem so_asn_0 {b : Nat} {x : ASd} {k : Int} : ∀ (w : World) cs f, asnT.O b w cs x f → asnT.O b w (cs.set 0 (I k)) { x with isd := k } f := fun w cs f h => ⟨by rw [asn_form (w := w) h.1]; rfl, h.2⟩
/-- Links as_ they grow among n realms, in at most m steps. -/
inductive Grown (n : Nat) : Nat → List Lnk → Prop
  | nil : Grown n 0 []
  | add {m : Nat} {L : List Lnk} (a c k : Int) : Grown n m L → 0 ≤ a → a < c → c < n → 1 ≤ k → k ≤ 3 → Grown n (m + 1) (addL L a c k)
theorem Grown.len {n m : Nat} {L : List Lnk} (h : Grown n m L) : L.length ≤ m := by
  induction h with
  | nil => simp
  | add a c k h _ _ _ _ _ ih => have := addL_len ‹_› a c k; omega
/-- A realm as_ it is drawn. -/
def AsK (x : ASd) : Prop := 0 ≤ x.isd ∧ x.isd ≤ 1 ∧ 1 ≤ x.key ∧ x.key ≤ 8000100
set_option maxHeartbeats 8000000 in
theorem spec_l5Draw {b n c : Nat} {w : World} {v : Value} {os : List Ow} (S : Sep b w (curO v n c 123 :: os)) (K : CodeK b w v n) : Calls Tryz.prog 97 #[.pointer (some ⟨c, 0, none⟩)] w fun e w' =>
  ∃ (va vl : Value) (A : List ASd) (L : List Lnk), e = .returned (.agg #[va, vl]) ∧ ((1 ≤ A.length ∧ A.length ≤ 8 ∧ ∀ x ∈ A, AsK x) ∧ ∃ m L0, m ≤ 60 ∧ Grown A.length m L0 ∧ L.Sublist L0) ∧ Sep b w' (slO asnT 117 va A :: slO linkT 90 vl L :: curO v n c 123 :: os) ∧ Below b w w' := by
 have X0 := Below.refl w.heap.size w; refine enter Tryz.func97 rfl Tryz.ntmps97 rfl ?_; have B := Below.refl b w; have Hb := S.base; refine w_h ?_; refine t_w S z_topo rfl ?_ rfl rfl; intro g2 w1 x2 S; have B := bx Hb B x2; refine t_k ?_; refine t_g (fun w => b_topo0 w) rfl ?_ rfl; refine t_w S z_topo rfl ?_ rfl rfl; intro g3 w3 x4 S; have B := bx Hb B x4; refine t_stn S sb_topo rfl rfl rfl rfl (by simp [Value.oneCell']) ?_; intro w5 b6 S; have B := B.trans b6; refine t_k ?_; refine t_m rfl ?_ rfl; have S := S.f2; refine t_f Tryz.call68 rfl (spec_l1Below 3 S (K.below B)) ?_ rfl; rintro e w7 ⟨y16, rfl, hf16, S, x8⟩; refine ⟨_, rfl, ?_⟩; have B := B.trans x8; refine t_add rfl rfl (by omega) ?_ rfl; refine t_a rfl ?_ rfl; refine t_k ?_; refine t_m rfl ?_ rfl; refine t_f Tryz.call68 rfl (spec_l1Below 6 S (K.below B)) ?_ rfl; rintro e w9 ⟨y19, rfl, hf19, S, x10⟩; refine ⟨_, rfl, ?_⟩; have B := B.trans x10; refine t_a rfl ?_ rfl; refine t_e ?_; (iterate 2 refine w_s ?_); refine w_g ?_; refine t_a rfl ?_ rfl; refine t_e ?_; refine w_block ?_; have S := Sep.addNil (T := linkT) (e := 90) S; have S := Sep.addNil (T := asnT) (e := 117) S; have S := S.f2.f4.f3.f3.f4
 refine w_loop (X := Nat × List ASd × Value) (fun x wq => (fun k A va => (k : Int) ≤ 1 + y16 + y19 ∧ A.length = k ∧ (∀ x ∈ A, AsK x) ∧ Below b w wq ∧ Sep b wq (bxO g3 27 #[va, .slice none 0 0] :: slO asnT 117 va A :: slO linkT 90 (.slice none 0 0) [] :: bxO g2 27 #[.slice none 0 0, .slice none 0 0] :: curO v n c 123 :: os)) x.1 x.2.1 x.2.2) (fun x => (fun k A va => [(6, I ((k : Int))), (0, .pointer (some ⟨c, 0, none⟩)), (2, .pointer (some ⟨g2, 0, none⟩)), (3, .pointer (some ⟨g3, 0, none⟩)), (4, I (1 + y16)), (5, I y19)]) x.1 x.2.1 x.2.2) (fun x => (fun k A va => (1 + y16 + y19 - k).toNat) x.1 x.2.1 x.2.2) (0, [], .slice none 0 0) ?_ ⟨rfl, rfl, rfl, rfl, rfl, rfl, trivial⟩ ?_
 ·exact ⟨by omega, rfl, fun x hx => by simp at hx, B, S⟩
 rintro ⟨k, A, va⟩ w11 hI; (try dsimp only at hI ⊢); obtain ⟨hk, hA, hK, B, S⟩ := hI; (iterate 2 refine w_s ?_); refine w_g ?_; (iterate 3 refine t_m rfl ?_ rfl); refine t_add rfl rfl (by omega) ?_ rfl; refine t_lss rfl rfl ?_ rfl; refine t_e ?_; refine w_if rfl ?_ ?_
 ·intro hlt; refine w_k ?_; refine x_s ?_; refine w_s ?_; refine w_block ?_; refine w_drawP [0, 2, 4, 5, 6, 7, 11] (.alt (.st .fin 1 (.st .fin 3 (.st .fin 8 (.st .fin 9 (.st .fin 10 (.st .fin 12 (.st .fin 13 (.st .fin 14 (.st .fin 15 (.st .fin 16 (.st .fin 17 .done))))))))))) (.st .fin 3 (.alt (.st .fin 1 (.st .fin 8 (.st .fin 9 (.st .fin 10 (.st .fin 12 (.st .fin 13 (.st .fin 14 (.st .fin 15 (.st .fin 16 (.st .fin 17 .done)))))))))) (.st .fin 8 (.alt (.st .fin 1 (.st .fin 9 (.st .fin 10 (.st .fin 12 (.st .fin 13 (.st .fin 14 (.st .fin 15 (.st .fin 16 (.st .fin 17 .done))))))))) (.st .fin 9 (.alt (.st .fin 1 (.st .fin 10 (.st .fin 12 (.st .fin 13 (.st .fin 14 (.st .fin 15 (.st .fin 16 (.st .fin 17 .done)))))))) (.st .fin 10 (.alt (.st .fin 1 (.st .fin 12 (.st .fin 13 (.st .fin 14 (.st .fin 15 (.st .fin 16 (.st .fin 17 .done))))))) (.st .fin 12 (.alt (.st .fin 1 (.st .fin 13 (.st .fin 14 (.st .fin 15 (.st .fin 16 (.st .fin 17 .done)))))) (.st .fin 13 (.alt (.st .fin 1 (.st .fin 14 (.st .fin 15 (.st .fin 16 (.st .fin 17 .done))))) (.st .fin 14 (.st .fin 1 (.st .fin 15 (.st .fin 16 (.st .fin 17 .done)))))))))))))))))) mixed (by kernel_rfl) ?_; intro w12 x13; have B := bx Hb B x13
  have S := S.below x13; refine p_fldx fb_topo_0 rfl rfl ?_ rfl; (iterate 3 refine p_move rfl ?_ rfl); refine p_lss rfl rfl ?_ rfl; (iterate 2 refine p_move rfl ?_ rfl); refine p_done ?_
  have hnew : ∀ y z : Int, ∀ q : Bool, 0 ≤ y ∧ (y < 2 ∨ y = 0) → 0 ≤ z ∧ (z < 1000000 ∨ z = 0) → ∀ x ∈ A ++ [(⟨y, q, 1 + z * 8 + k⟩ : ASd)], AsK x := by
   intro y z q hy hz x hx; rw [List.mem_append, List.mem_singleton] at hx
   rcases hx with hx | hx
   ·exact hK x hx
   ·subst hx; exact ⟨hy.1, by show y ≤ 1; omega, by show 1 ≤ 1 + z * 8 + (k : Int); omega, by show 1 + z * 8 + (k : Int) ≤ 8000100; omega⟩
  have hlen : ∀ x : ASd, ((A ++ [x]).length : Int) = ((k + 1 : Nat) : Int) := fun x => by rw [List.length_append, List.length_singleton]; omega
  refine t_alt ?_ ?_
  ·refine t_bx1 S.box ab_s_asn rfl rfl ?_ rfl; have S := S.f4; refine t_f Tryz.call68 rfl (spec_l1Below 2 S (K.below B)) ?_ rfl; rintro e w14 ⟨y30, rfl, hf30, S, x15⟩; refine ⟨_, rfl, ?_⟩; have B := B.trans x15; refine t_f Tryz.call68 rfl (spec_l1Below 1000000 S (K.below B)) ?_ rfl; rintro e w16 ⟨y35, rfl, hf35, S, x17⟩; refine ⟨_, rfl, ?_⟩; have B := B.trans x17; refine t_mul rfl rfl (by omega) ?_ rfl; refine t_add rfl rfl (by omega) ?_ rfl; refine t_add rfl rfl (by omega) ?_ rfl; refine t_g (fun w => b_asn _ _ _ w) rfl ?_ rfl; refine t_lit (T := asnT) (l := [(⟨y30, decide ((k : Int) < (1 + y16)), (1 + (y35 * 8)) + (k : Int)⟩ : ASd)]) (css := [[I y30, .bool (decide ((k : Int) < (1 + y16))), I ((1 + (y35 * 8)) + (k : Int))]]) asn_flat S (fun w => bs_asn1 _ _ _ w) rfl rfl rfl rfl (by simp [maxLen]) (litR_one fun _ => rfl) ?_ rfl rfl; intro u41 w18 x19 S; have B := bx Hb B x19; have hR := S.sl; have S := S.f3; refine t_cat asn_flat e_asn S hR rfl rfl rfl (by first | omega | (simp [-List.length_flatMap]; omega)) (by (simp [maxLen, -List.length_flatMap]; try omega)) ?_ rfl; intro v42 w20 x21 S; have B := B.trans x21; clear hR; have S := S.f1.tail; refine t_y fb_topo_0 rfl rfl ?_ rfl
   obtain ⟨Av42, cv42, rfl, _⟩ := S.sl.form; have S := S.f2; refine t_st1 S sb_s_asn rfl rfl rfl rfl rfl ?_; intro w22 b23 S; have B := B.trans b23; refine t_d' ?_; refine x_b ?_; refine x_s ?_; refine w_g ?_; refine t_m rfl ?_ rfl; refine t_add rfl rfl (by omega) ?_ rfl; refine t_a rfl ?_ rfl; refine t_d ?_; have S := S.f2.f4.f4.f4.f4; refine x_r (X := Nat × List ASd × Value) (k + 1, A ++ [(⟨y30, decide ((k : Int) < 1 + y16), 1 + y35 * 8 + (k : Int)⟩ : ASd)], .slice Av42 (A ++ ([(⟨y30, decide ((k : Int) < (1 + y16)), (1 + (y35 * 8)) + (k : Int)⟩ : ASd)])).length cv42) ?_ (by exact ⟨rfl, rfl, rfl, rfl, rfl, rfl, trivial⟩) (by (try dsimp only); omega); (try dsimp only); exact ⟨by omega, hlen _, hnew _ _ _ hf30 hf35, B, S⟩
  ·have S := S.f4; refine t_f Tryz.call68 rfl (spec_l1Below 2 S (K.below B)) ?_ rfl; rintro e w24 ⟨y30, rfl, hf30, S, x25⟩; refine ⟨_, rfl, ?_⟩; have B := B.trans x25; refine t_alt ?_ ?_
   ·refine t_bx1 S.tail.box ab_s_asn rfl rfl ?_ rfl; refine t_f Tryz.call68 rfl (spec_l1Below 1000000 S (K.below B)) ?_ rfl; rintro e w26 ⟨y35, rfl, hf35, S, x27⟩; refine ⟨_, rfl, ?_⟩; have B := B.trans x27; refine t_mul rfl rfl (by omega) ?_ rfl; refine t_add rfl rfl (by omega) ?_ rfl; refine t_add rfl rfl (by omega) ?_ rfl; refine t_g (fun w => b_asn _ _ _ w) rfl ?_ rfl; refine t_lit (T := asnT) (l := [(⟨y30, decide ((k : Int) < (1 + y16)), (1 + (y35 * 8)) + (k : Int)⟩ : ASd)]) (css := [[I y30, .bool (decide ((k : Int) < (1 + y16))), I ((1 + (y35 * 8)) + (k : Int))]]) asn_flat S (fun w => bs_asn1 _ _ _ w) rfl rfl rfl rfl (by simp [maxLen]) (litR_one fun _ => rfl) ?_ rfl rfl; intro u41 w28 x29 S; have B := bx Hb B x29; have hR := S.sl; have S := S.f3; refine t_cat asn_flat e_asn S hR rfl rfl rfl (by first | omega | (simp [-List.length_flatMap]; omega)) (by (simp [maxLen, -List.length_flatMap]; try omega)) ?_ rfl; intro v42 w30 x31 S; have B := B.trans x31; clear hR; have S := S.f1.tail; refine t_y fb_topo_0 rfl rfl ?_ rfl; obtain ⟨Av42, cv42, rfl, _⟩ := S.sl.form; have S := S.f2; refine t_st1 S sb_s_asn rfl rfl rfl rfl rfl ?_; intro w32 b33 S; have B := B.trans b33; refine t_d' ?_
    refine x_b ?_; refine x_s ?_; refine w_g ?_; refine t_m rfl ?_ rfl; refine t_add rfl rfl (by omega) ?_ rfl; refine t_a rfl ?_ rfl; refine t_d ?_; have S := S.f2.f4.f4.f4.f4; refine x_r (X := Nat × List ASd × Value) (k + 1, A ++ [(⟨y30, decide ((k : Int) < 1 + y16), 1 + y35 * 8 + (k : Int)⟩ : ASd)], .slice Av42 (A ++ ([(⟨y30, decide ((k : Int) < (1 + y16)), (1 + (y35 * 8)) + (k : Int)⟩ : ASd)])).length cv42) ?_ (by exact ⟨rfl, rfl, rfl, rfl, rfl, rfl, trivial⟩) (by (try dsimp only); omega); (try dsimp only); exact ⟨by omega, hlen _, hnew _ _ _ hf30 hf35, B, S⟩
   ·refine t_f Tryz.call68 rfl (spec_l1Below 1000000 S (K.below B)) ?_ rfl; rintro e w34 ⟨y35, rfl, hf35, S, x35⟩; refine ⟨_, rfl, ?_⟩; have B := B.trans x35; refine t_alt ?_ ?_
    ·refine t_bx1 S.tail.box ab_s_asn rfl rfl ?_ rfl; refine t_mul rfl rfl (by omega) ?_ rfl; refine t_add rfl rfl (by omega) ?_ rfl; refine t_add rfl rfl (by omega) ?_ rfl; refine t_g (fun w => b_asn _ _ _ w) rfl ?_ rfl; refine t_lit (T := asnT) (l := [(⟨y30, decide ((k : Int) < (1 + y16)), (1 + (y35 * 8)) + (k : Int)⟩ : ASd)]) (css := [[I y30, .bool (decide ((k : Int) < (1 + y16))), I ((1 + (y35 * 8)) + (k : Int))]]) asn_flat S (fun w => bs_asn1 _ _ _ w) rfl rfl rfl rfl (by simp [maxLen]) (litR_one fun _ => rfl) ?_ rfl rfl; intro u41 w36 x37 S; have B := bx Hb B x37; have hR := S.sl; have S := S.f3; refine t_cat asn_flat e_asn S hR rfl rfl rfl (by first | omega | (simp [-List.length_flatMap]; omega)) (by (simp [maxLen, -List.length_flatMap]; try omega)) ?_ rfl; intro v42 w38 x39 S; have B := B.trans x39; clear hR; have S := S.f1.tail; refine t_y fb_topo_0 rfl rfl ?_ rfl; obtain ⟨Av42, cv42, rfl, _⟩ := S.sl.form; have S := S.f2; refine t_st1 S sb_s_asn rfl rfl rfl rfl rfl ?_; intro w40 b41 S; have B := B.trans b41; refine t_d' ?_; refine x_b ?_; refine x_s ?_; refine w_g ?_; refine t_m rfl ?_ rfl; refine t_add rfl rfl (by omega) ?_ rfl; refine t_a rfl ?_ rfl; refine t_d ?_
     have S := S.f2.f4.f4.f4.f4; refine x_r (X := Nat × List ASd × Value) (k + 1, A ++ [(⟨y30, decide ((k : Int) < 1 + y16), 1 + y35 * 8 + (k : Int)⟩ : ASd)], .slice Av42 (A ++ ([(⟨y30, decide ((k : Int) < (1 + y16)), (1 + (y35 * 8)) + (k : Int)⟩ : ASd)])).length cv42) ?_ (by exact ⟨rfl, rfl, rfl, rfl, rfl, rfl, trivial⟩) (by (try dsimp only); omega); (try dsimp only); exact ⟨by omega, hlen _, hnew _ _ _ hf30 hf35, B, S⟩
    ·refine t_mul rfl rfl (by omega) ?_ rfl; refine t_alt ?_ ?_
     ·refine t_bx1 S.tail.box ab_s_asn rfl rfl ?_ rfl; refine t_add rfl rfl (by omega) ?_ rfl; refine t_add rfl rfl (by omega) ?_ rfl; refine t_g (fun w => b_asn _ _ _ w) rfl ?_ rfl; refine t_lit (T := asnT) (l := [(⟨y30, decide ((k : Int) < (1 + y16)), (1 + (y35 * 8)) + (k : Int)⟩ : ASd)]) (css := [[I y30, .bool (decide ((k : Int) < (1 + y16))), I ((1 + (y35 * 8)) + (k : Int))]]) asn_flat S (fun w => bs_asn1 _ _ _ w) rfl rfl rfl rfl (by simp [maxLen]) (litR_one fun _ => rfl) ?_ rfl rfl; intro u41 w42 x43 S; have B := bx Hb B x43; have hR := S.sl; have S := S.f3; refine t_cat asn_flat e_asn S hR rfl rfl rfl (by first | omega | (simp [-List.length_flatMap]; omega)) (by (simp [maxLen, -List.length_flatMap]; try omega)) ?_ rfl; intro v42 w44 x45 S; have B := B.trans x45; clear hR; have S := S.f1.tail; refine t_y fb_topo_0 rfl rfl ?_ rfl; obtain ⟨Av42, cv42, rfl, _⟩ := S.sl.form; have S := S.f2; refine t_st1 S sb_s_asn rfl rfl rfl rfl rfl ?_; intro w46 b47 S; have B := B.trans b47; refine t_d' ?_; refine x_b ?_; refine x_s ?_; refine w_g ?_; refine t_m rfl ?_ rfl; refine t_add rfl rfl (by omega) ?_ rfl; refine t_a rfl ?_ rfl; refine t_d ?_; have S := S.f2.f4.f4.f4.f4
      refine x_r (X := Nat × List ASd × Value) (k + 1, A ++ [(⟨y30, decide ((k : Int) < 1 + y16), 1 + y35 * 8 + (k : Int)⟩ : ASd)], .slice Av42 (A ++ ([(⟨y30, decide ((k : Int) < (1 + y16)), (1 + (y35 * 8)) + (k : Int)⟩ : ASd)])).length cv42) ?_ (by exact ⟨rfl, rfl, rfl, rfl, rfl, rfl, trivial⟩) (by (try dsimp only); omega); (try dsimp only); exact ⟨by omega, hlen _, hnew _ _ _ hf30 hf35, B, S⟩
     ·refine t_add rfl rfl (by omega) ?_ rfl; refine t_alt ?_ ?_
      ·refine t_bx1 S.tail.box ab_s_asn rfl rfl ?_ rfl; refine t_add rfl rfl (by omega) ?_ rfl; refine t_g (fun w => b_asn _ _ _ w) rfl ?_ rfl; refine t_lit (T := asnT) (l := [(⟨y30, decide ((k : Int) < (1 + y16)), (1 + (y35 * 8)) + (k : Int)⟩ : ASd)]) (css := [[I y30, .bool (decide ((k : Int) < (1 + y16))), I ((1 + (y35 * 8)) + (k : Int))]]) asn_flat S (fun w => bs_asn1 _ _ _ w) rfl rfl rfl rfl (by simp [maxLen]) (litR_one fun _ => rfl) ?_ rfl rfl; intro u41 w48 x49 S; have B := bx Hb B x49; have hR := S.sl; have S := S.f3; refine t_cat asn_flat e_asn S hR rfl rfl rfl (by first | omega | (simp [-List.length_flatMap]; omega)) (by (simp [maxLen, -List.length_flatMap]; try omega)) ?_ rfl; intro v42 w50 x51 S; have B := B.trans x51; clear hR; have S := S.f1.tail; refine t_y fb_topo_0 rfl rfl ?_ rfl; obtain ⟨Av42, cv42, rfl, _⟩ := S.sl.form; have S := S.f2; refine t_st1 S sb_s_asn rfl rfl rfl rfl rfl ?_; intro w52 b53 S; have B := B.trans b53; refine t_d' ?_; refine x_b ?_; refine x_s ?_; refine w_g ?_; refine t_m rfl ?_ rfl; refine t_add rfl rfl (by omega) ?_ rfl; refine t_a rfl ?_ rfl; refine t_d ?_; have S := S.f2.f4.f4.f4.f4
       refine x_r (X := Nat × List ASd × Value) (k + 1, A ++ [(⟨y30, decide ((k : Int) < 1 + y16), 1 + y35 * 8 + (k : Int)⟩ : ASd)], .slice Av42 (A ++ ([(⟨y30, decide ((k : Int) < (1 + y16)), (1 + (y35 * 8)) + (k : Int)⟩ : ASd)])).length cv42) ?_ (by exact ⟨rfl, rfl, rfl, rfl, rfl, rfl, trivial⟩) (by (try dsimp only); omega); (try dsimp only); exact ⟨by omega, hlen _, hnew _ _ _ hf30 hf35, B, S⟩
      ·refine t_add rfl rfl (by omega) ?_ rfl; refine t_alt ?_ ?_
       ·refine t_bx1 S.tail.box ab_s_asn rfl rfl ?_ rfl; refine t_g (fun w => b_asn _ _ _ w) rfl ?_ rfl; refine t_lit (T := asnT) (l := [(⟨y30, decide ((k : Int) < (1 + y16)), (1 + (y35 * 8)) + (k : Int)⟩ : ASd)]) (css := [[I y30, .bool (decide ((k : Int) < (1 + y16))), I ((1 + (y35 * 8)) + (k : Int))]]) asn_flat S (fun w => bs_asn1 _ _ _ w) rfl rfl rfl rfl (by simp [maxLen]) (litR_one fun _ => rfl) ?_ rfl rfl; intro u41 w54 x55 S; have B := bx Hb B x55; have hR := S.sl; have S := S.f3; refine t_cat asn_flat e_asn S hR rfl rfl rfl (by first | omega | (simp [-List.length_flatMap]; omega)) (by (simp [maxLen, -List.length_flatMap]; try omega)) ?_ rfl; intro v42 w56 x57 S; have B := B.trans x57; clear hR; have S := S.f1.tail; refine t_y fb_topo_0 rfl rfl ?_ rfl; obtain ⟨Av42, cv42, rfl, _⟩ := S.sl.form; have S := S.f2; refine t_st1 S sb_s_asn rfl rfl rfl rfl rfl ?_; intro w58 b59 S; have B := B.trans b59; refine t_d' ?_; refine x_b ?_; refine x_s ?_; refine w_g ?_; refine t_m rfl ?_ rfl; refine t_add rfl rfl (by omega) ?_ rfl; refine t_a rfl ?_ rfl; refine t_d ?_; have S := S.f2.f4.f4.f4.f4
        refine x_r (X := Nat × List ASd × Value) (k + 1, A ++ [(⟨y30, decide ((k : Int) < 1 + y16), 1 + y35 * 8 + (k : Int)⟩ : ASd)], .slice Av42 (A ++ ([(⟨y30, decide ((k : Int) < (1 + y16)), (1 + (y35 * 8)) + (k : Int)⟩ : ASd)])).length cv42) ?_ (by exact ⟨rfl, rfl, rfl, rfl, rfl, rfl, trivial⟩) (by (try dsimp only); omega); (try dsimp only); exact ⟨by omega, hlen _, hnew _ _ _ hf30 hf35, B, S⟩
       ·refine t_g (fun w => b_asn _ _ _ w) rfl ?_ rfl; refine t_alt ?_ ?_
        ·refine t_bx1 S.tail.box ab_s_asn rfl rfl ?_ rfl; refine t_lit (T := asnT) (l := [(⟨y30, decide ((k : Int) < (1 + y16)), (1 + (y35 * 8)) + (k : Int)⟩ : ASd)]) (css := [[I y30, .bool (decide ((k : Int) < (1 + y16))), I ((1 + (y35 * 8)) + (k : Int))]]) asn_flat S (fun w => bs_asn1 _ _ _ w) rfl rfl rfl rfl (by simp [maxLen]) (litR_one fun _ => rfl) ?_ rfl rfl; intro u41 w60 x61 S; have B := bx Hb B x61; have hR := S.sl; have S := S.f3; refine t_cat asn_flat e_asn S hR rfl rfl rfl (by first | omega | (simp [-List.length_flatMap]; omega)) (by (simp [maxLen, -List.length_flatMap]; try omega)) ?_ rfl; intro v42 w62 x63 S; have B := B.trans x63; clear hR; have S := S.f1.tail; refine t_y fb_topo_0 rfl rfl ?_ rfl; obtain ⟨Av42, cv42, rfl, _⟩ := S.sl.form; have S := S.f2; refine t_st1 S sb_s_asn rfl rfl rfl rfl rfl ?_; intro w64 b65 S; have B := B.trans b65; refine t_d' ?_; refine x_b ?_; refine x_s ?_; refine w_g ?_; refine t_m rfl ?_ rfl; refine t_add rfl rfl (by omega) ?_ rfl; refine t_a rfl ?_ rfl; refine t_d ?_; have S := S.f2.f4.f4.f4.f4
         refine x_r (X := Nat × List ASd × Value) (k + 1, A ++ [(⟨y30, decide ((k : Int) < 1 + y16), 1 + y35 * 8 + (k : Int)⟩ : ASd)], .slice Av42 (A ++ ([(⟨y30, decide ((k : Int) < (1 + y16)), (1 + (y35 * 8)) + (k : Int)⟩ : ASd)])).length cv42) ?_ (by exact ⟨rfl, rfl, rfl, rfl, rfl, rfl, trivial⟩) (by (try dsimp only); omega); (try dsimp only); exact ⟨by omega, hlen _, hnew _ _ _ hf30 hf35, B, S⟩
        ·refine t_lit (T := asnT) (l := [(⟨y30, decide ((k : Int) < (1 + y16)), (1 + (y35 * 8)) + (k : Int)⟩ : ASd)]) (css := [[I y30, .bool (decide ((k : Int) < (1 + y16))), I ((1 + (y35 * 8)) + (k : Int))]]) asn_flat S (fun w => bs_asn1 _ _ _ w) rfl rfl rfl rfl (by simp [maxLen]) (litR_one fun _ => rfl) ?_ rfl rfl; intro u41 w66 x67 S; have B := bx Hb B x67; refine t_bx1 S.tail.tail.box ab_s_asn rfl rfl ?_ rfl; have hR := S.sl; have S := S.f3; refine t_cat asn_flat e_asn S hR rfl rfl rfl (by first | omega | (simp [-List.length_flatMap]; omega)) (by (simp [maxLen, -List.length_flatMap]; try omega)) ?_ rfl; intro v42 w68 x69 S; have B := B.trans x69; clear hR; have S := S.f1.tail; refine t_y fb_topo_0 rfl rfl ?_ rfl; obtain ⟨Av42, cv42, rfl, _⟩ := S.sl.form; have S := S.f2; refine t_st1 S sb_s_asn rfl rfl rfl rfl rfl ?_; intro w70 b71 S; have B := B.trans b71; refine t_d' ?_; refine x_b ?_; refine x_s ?_; refine w_g ?_; refine t_m rfl ?_ rfl; refine t_add rfl rfl (by omega) ?_ rfl; refine t_a rfl ?_ rfl; refine t_d ?_; have S := S.f2.f4.f4.f4.f4
         refine x_r (X := Nat × List ASd × Value) (k + 1, A ++ [(⟨y30, decide ((k : Int) < 1 + y16), 1 + y35 * 8 + (k : Int)⟩ : ASd)], .slice Av42 (A ++ ([(⟨y30, decide ((k : Int) < (1 + y16)), (1 + (y35 * 8)) + (k : Int)⟩ : ASd)])).length cv42) ?_ (by exact ⟨rfl, rfl, rfl, rfl, rfl, rfl, trivial⟩) (by (try dsimp only); omega); (try dsimp only); exact ⟨by omega, hlen _, hnew _ _ _ hf30 hf35, B, S⟩
 ·intro hge; refine w_exit ?_; (iterate 2 refine x_then_exit ?_); refine x_block_exit ?_; refine x_s ?_; (iterate 2 refine w_s ?_); refine w_g ?_; refine t_a rfl ?_ rfl; refine t_e ?_; refine w_block ?_
  have hN : (A.length : Int) = 1 + y16 + y19 := by omega
  clear hge hk; refine w_loop (X := Nat × List Lnk × Value) (fun x wq => (fun k L vl => 1 ≤ k ∧ (k : Int) ≤ 1 + y16 ∧ (∃ m : Nat, m ≤ 2 * k ∧ Grown A.length m L) ∧ Below b w wq ∧ Sep b wq (bxO g3 27 #[va, vl] :: slO asnT 117 va A :: slO linkT 90 vl L :: bxO g2 27 #[.slice none 0 0, .slice none 0 0] :: curO v n c 123 :: os)) x.1 x.2.1 x.2.2) (fun x => (fun k L vl => [(7, I ((k : Int))), (0, .pointer (some ⟨c, 0, none⟩)), (2, .pointer (some ⟨g2, 0, none⟩)), (3, .pointer (some ⟨g3, 0, none⟩)), (4, I (1 + y16))]) x.1 x.2.1 x.2.2) (fun x => (fun k L vl => (1 + y16 - k).toNat) x.1 x.2.1 x.2.2) (1, [], .slice none 0 0) ?_ ⟨rfl, rfl, rfl, rfl, rfl, trivial⟩ ?_
  ·exact ⟨by omega, by omega, ⟨0, by omega, .nil⟩, B, S⟩
  rintro ⟨k, L, vl⟩ w72 hI; (try dsimp only at hI ⊢); obtain ⟨hk1, hk, ⟨m, hm, hG⟩, B, S⟩ := hI; have hL := hG.len; (iterate 2 refine w_s ?_); refine w_g ?_; (iterate 2 refine t_m rfl ?_ rfl); refine t_lss rfl rfl ?_ rfl; refine t_e ?_; refine w_if rfl ?_ ?_
  ·intro hlt; refine w_k ?_; refine x_s ?_; refine w_s ?_; refine w_block ?_; refine w_h ?_; (iterate 2 refine t_m rfl ?_ rfl); have S := S.f4; refine t_f Tryz.call68 rfl (spec_l1Below (k : Int) S (K.below B)) ?_ rfl; rintro e w73 ⟨y51, rfl, hf51, S, x74⟩; refine ⟨_, rfl, ?_⟩; have B := B.trans x74; refine t_m rfl ?_ rfl; have S := S.f3.f3.f3; refine t_f Tryz.call137 rfl (spec_l5Add y51 (k : Int) 1 S (by omega)) ?_ rfl; rintro e w75 ⟨v53, rfl, S, x76⟩; refine ⟨_, rfl, ?_⟩; have B := B.trans x76; refine t_k ?_; refine t_m rfl ?_ rfl; have S := S.f3; refine t_f Tryz.call70 rfl (spec_l1Once 2 S (K.below B)) ?_ rfl; rintro e w77 ⟨y55, rfl, hf55, S, x78⟩; refine ⟨_, rfl, ?_⟩; have B := B.trans x78; refine t_e ?_; have hG2 := hG.add y51 k 1 (by omega) (by omega) (by omega) (by omega) (by omega); have hL2 := hG2.len; refine w_if rfl ?_ ?_
   ·intro hone; refine w_g ?_; (iterate 2 refine t_m rfl ?_ rfl); refine t_f Tryz.call68 rfl (spec_l1Below (k : Int) S (K.below B)) ?_ rfl; rintro e w79 ⟨y58, rfl, hf58, S, x80⟩; refine ⟨_, rfl, ?_⟩; have B := B.trans x80; refine t_m rfl ?_ rfl; have S := S.f3.f3.f3; refine t_f Tryz.call137 rfl (spec_l5Add y58 (k : Int) 1 S (by omega)) ?_ rfl; rintro e w81 ⟨v60, rfl, S, x82⟩; refine ⟨_, rfl, ?_⟩; have B := B.trans x82; refine t_d ?_; refine x_b ?_; refine x_s ?_; refine w_g ?_; refine t_m rfl ?_ rfl; refine t_add rfl rfl (by omega) ?_ rfl; refine t_a rfl ?_ rfl; refine t_d ?_; have hG3 := hG2.add y58 k 1 (by omega) (by omega) (by omega) (by omega) (by omega); have S := S.f3.f4.f4.f4.f4; refine x_r (X := Nat × List Lnk × Value) (k + 1, addL (addL L y51 (k : Int) 1) y58 (k : Int) 1, v60) ?_ (by exact ⟨rfl, rfl, rfl, rfl, rfl, trivial⟩) (by (try dsimp only); omega); (try dsimp only); exact ⟨by omega, by omega, ⟨_, by omega, hG3⟩, B, S⟩
   ·intro hone; refine w_k ?_; refine x_b ?_; refine x_s ?_; refine w_g ?_; refine t_m rfl ?_ rfl; refine t_add rfl rfl (by omega) ?_ rfl; refine t_a rfl ?_ rfl; refine t_d ?_; have S := S.f4.f4.f4.f4; refine x_r (X := Nat × List Lnk × Value) (k + 1, addL L y51 (k : Int) 1, v53) ?_ (by exact ⟨rfl, rfl, rfl, rfl, rfl, trivial⟩) (by (try dsimp only); omega); (try dsimp only); exact ⟨by omega, by omega, ⟨_, by omega, hG2⟩, B, S⟩
  ·intro hge; refine w_exit ?_; (iterate 2 refine x_then_exit ?_); refine x_block_exit ?_; refine x_s ?_; (iterate 2 refine w_s ?_); refine w_g ?_; refine t_m rfl ?_ rfl; refine t_a rfl ?_ rfl; refine t_e ?_; refine w_block ?_; obtain ⟨N, hNN⟩ : ∃ N, N = A.length := ⟨_, rfl⟩; rw [← hNN] at hG hN; have hA := hNN.symm; clear hNN; refine w_loop (X := Int × List ASd × Value × List Lnk × Value) (fun x wq => (fun k A va L vl => 1 ≤ k ∧ 1 + y16 ≤ k ∧ k ≤ N ∧ A.length = N ∧ (∀ x ∈ A, AsK x) ∧ (∃ m : Nat, (m : Int) ≤ 6 + 3 * k ∧ Grown N m L) ∧ Below b w wq ∧ Sep b wq (bxO g3 27 #[va, vl] :: slO asnT 117 va A :: slO linkT 90 vl L :: bxO g2 27 #[.slice none 0 0, .slice none 0 0] :: curO v n c 123 :: os)) x.1 x.2.1 x.2.2.1 x.2.2.2.1 x.2.2.2.2) (fun x => (fun k A va L vl => [(8, I k), (0, .pointer (some ⟨c, 0, none⟩)), (2, .pointer (some ⟨g2, 0, none⟩)), (3, .pointer (some ⟨g3, 0, none⟩)), (4, I (1 + y16))]) x.1 x.2.1 x.2.2.1 x.2.2.2.1 x.2.2.2.2) (fun x => (fun k A va L vl => ((N : Int) - k).toNat) x.1 x.2.1 x.2.2.1 x.2.2.2.1 x.2.2.2.2) (1 + y16, A, va, L, vl) ?_ ⟨rfl, rfl, rfl, rfl, rfl, trivial⟩ ?_
   ·exact ⟨by omega, by omega, by omega, hA, hK, ⟨m, by omega, hG⟩, B, S⟩
   rintro ⟨k, A, va, L, vl⟩ w83 hI; (try dsimp only at hI ⊢); obtain ⟨hk1, hk2, hk, hA, hK, ⟨m, hm, hG⟩, B, S⟩ := hI; (iterate 2 refine w_s ?_); refine w_g ?_; refine t_m rfl ?_ rfl; refine t_y fb_topo_0 rfl rfl ?_ rfl; refine t_bx1 S.box ab_s_asn rfl rfl ?_ rfl; refine t_len e_asn (S.tail.sl) rfl rfl ?_ rfl; refine t_lss rfl rfl ?_ rfl; refine t_e ?_; refine w_if rfl ?_ ?_
   ·intro hlt; refine w_k ?_; refine x_s ?_; refine w_s ?_; refine w_block ?_; (iterate 2 refine w_s ?_); refine w_g ?_; refine t_m rfl ?_ rfl; have S := S.f4; refine t_f Tryz.call68 rfl (spec_l1Below 2 S (K.below B)) ?_ rfl; rintro e w84 ⟨y70, rfl, hf70, S, x85⟩; refine ⟨_, rfl, ?_⟩; have B := B.trans x85; refine t_add rfl rfl (by omega) ?_ rfl; refine t_a rfl ?_ rfl; refine t_e ?_; refine w_block ?_; refine w_loop (X := Int × List ASd × Value × List Lnk × Value) (fun x wq => (fun j A2 va2 L2 vl2 => 0 ≤ j ∧ j ≤ 2 ∧ A2.length = N ∧ (∀ x ∈ A2, AsK x) ∧ (∃ m : Nat, (m : Int) ≤ 6 + 3 * k + (2 - j) ∧ Grown N m L2) ∧ Below b w wq ∧ Sep b wq (bxO g3 27 #[va2, vl2] :: slO asnT 117 va2 A2 :: slO linkT 90 vl2 L2 :: bxO g2 27 #[.slice none 0 0, .slice none 0 0] :: curO v n c 123 :: os)) x.1 x.2.1 x.2.2.1 x.2.2.2.1 x.2.2.2.2) (fun x => (fun j A2 va2 L2 vl2 => [(9, I j), (8, I k), (0, .pointer (some ⟨c, 0, none⟩)), (2, .pointer (some ⟨g2, 0, none⟩)), (3, .pointer (some ⟨g3, 0, none⟩)), (4, I (1 + y16))]) x.1 x.2.1 x.2.2.1 x.2.2.2.1 x.2.2.2.2) (fun x => (fun j A2 va2 L2 vl2 => j.toNat) x.1 x.2.1 x.2.2.1 x.2.2.2.1 x.2.2.2.2) (1 + y70, A, va, L, vl) ?_ ⟨rfl, rfl, rfl, rfl, rfl, rfl, trivial⟩ ?_
    ·exact ⟨by omega, by omega, hA, hK, ⟨m, by omega, hG⟩, B, S.f4.f4.f4.f4⟩
    rintro ⟨j, A2, va2, L2, vl2⟩ w86 hI; (try dsimp only at hI ⊢); obtain ⟨hj0, hj2, hA2, hK2, ⟨m2, hm2, hG2⟩, B, S⟩ := hI; have hL2 := hG2.len; (iterate 2 refine w_s ?_); refine w_g ?_; refine t_m rfl ?_ rfl; refine t_gtr rfl rfl ?_ rfl; refine t_e ?_; refine w_if rfl ?_ ?_
    ·intro hj; have S := S.f1; obtain ⟨Gva2, Cva2, rfl⟩ := S.addr (by omega); refine w_k ?_; refine x_s ?_; refine w_s ?_; refine w_block ?_; refine w_h ?_; (iterate 2 refine t_m rfl ?_ rfl); have S := S.f4; refine t_f Tryz.call68 rfl (spec_l1Below k S (K.below B)) ?_ rfl; rintro e w87 ⟨y78, rfl, hf78, S, x88⟩; refine ⟨_, rfl, ?_⟩; have B := B.trans x88; refine t_a rfl ?_ rfl; refine t_e ?_; (iterate 2 refine w_s ?_); refine w_g ?_; refine t_m rfl ?_ rfl; refine t_f Tryz.call70 rfl (spec_l1Once 5 S (K.below B)) ?_ rfl; rintro e w89 ⟨y80, rfl, hf80, S, x90⟩; refine ⟨_, rfl, ?_⟩; have B := B.trans x90; refine t_not rfl ?_ rfl; refine t_e ?_; obtain ⟨ea, hea⟩ := getx (l := A2) (k := y78.toNat) (by omega); obtain ⟨eb, heb⟩ := getx (l := A2) (k := k.toNat) (by omega); have hadd := hG2.add y78 k 2 (by omega) (by omega) (by omega) (by omega) (by omega); refine w_if rfl ?_ ?_
     ·intro ho; refine w_draw (.st .take 0 (.st .take 1 (.st .take 2 (.st .take 3 (.st .take 4 (.st .take 5 (.st .take 6 (.st .take 7 (.st .take 8 (.st .take 9 (.st .take 10 (.st .fin 11 .done)))))))))))) mixed (by kernel_rfl) ?_; intro w91 x92; have B := bx Hb B x92; have S := S.below x92; refine t_y fb_topo_0 rfl rfl ?_ rfl; refine t_bx1 S.tail.tail.box ab_s_asn rfl rfl ?_ rfl; refine t_m rfl ?_ rfl; refine t_y fb_topo_0 rfl rfl ?_ rfl; refine t_bx1 S.tail.tail.box ab_s_asn rfl rfl ?_ rfl; refine t_m rfl ?_ rfl; refine t_idxx e_asn (k := y78.toNat) rfl rfl (by first | rfl | omega) (by omega) rfl ?_ rfl; refine t_y fb_asn_0 rfl rfl ?_ rfl; have S := S.f1; refine t_ldS (T := asnT) (j := 0) S ab_int rfl hea rfl rl_asn_0 ?_ rfl; refine t_idxx e_asn (k := k.toNat) rfl rfl (by first | rfl | omega) (by omega) rfl ?_ rfl; refine t_y fb_asn_0 rfl rfl ?_ rfl; refine t_stS (T := asnT) (j := 0) (x' := { eb with isd := ea.isd }) S (by first | rfl | ((try simp only [List.length_set]); first | omega | simp)) sb_int rfl rfl heb rfl (by decide) rfl rfl so_asn_0 ?_; intro w93 b94 S; have B := B.trans b94; have hq95 := set_at (y := { eb with isd := ea.isd }) heb; refine t_e' ?_; refine w_s ?_
      refine w_draw (.st .take 0 (.st .take 1 (.st .take 2 (.st .take 3 (.st .take 4 (.st .take 5 (.st .take 6 (.st .take 7 (.st .take 8 (.st .take 9 (.st .take 10 (.st .take 11 (.st .take 12 .done))))))))))))) mixed (by kernel_rfl) ?_; intro w96 x97; have B := bx Hb B x97; have S := S.below x97; refine t_y fb_topo_0 rfl rfl ?_ rfl; refine t_bx1 S.tail.tail.box ab_s_asn rfl rfl ?_ rfl; refine t_m rfl ?_ rfl; refine t_idxx e_asn (k := y78.toNat) rfl rfl (by first | rfl | omega) (by omega) rfl ?_ rfl; refine t_y fb_asn_0 rfl rfl ?_ rfl
      have hea2 : (A2.set k.toNat { eb with isd := ea.isd })[y78.toNat]? = some ea := by rw [List.getElem?_set_ne (by omega)]; exact hea
      have hKs : ∀ x ∈ A2.set k.toNat { eb with isd := ea.isd }, AsK x := by
       intro x hx
       rcases List.mem_or_eq_of_mem_set hx with hx | rfl
       ·exact hK2 x hx
       ·have q1 := hK2 ea (List.mem_of_getElem? hea); have q2 := hK2 eb (List.mem_of_getElem? heb); exact ⟨q1.1, q1.2.1, q2.2.2.1, q2.2.2.2⟩
      refine t_ldS (T := asnT) (j := 0) S ab_int rfl hea2 rfl rl_asn_0 ?_ rfl; refine t_y fb_topo_0 rfl rfl ?_ rfl; refine t_bx1 S.tail.tail.box ab_s_asn rfl rfl ?_ rfl; refine t_m rfl ?_ rfl; refine t_idxx e_asn (k := k.toNat) rfl rfl (by first | rfl | omega) (by omega) rfl ?_ rfl; refine t_y fb_asn_0 rfl rfl ?_ rfl; refine t_ldS (T := asnT) (j := 0) S ab_int rfl hq95 rfl rl_asn_0 ?_ rfl; refine t_eql rfl rfl ?_ rfl; refine t_e' ?_; refine w_if rfl ?_ ?_
      ·intro hi; refine w_g ?_; (iterate 2 refine t_m rfl ?_ rfl); have S := S.f3.f1.f3; refine t_f Tryz.call137 rfl (spec_l5Add y78 k 2 S (by omega)) ?_ rfl; rintro e w98 ⟨v108, rfl, S, x99⟩; refine ⟨_, rfl, ?_⟩; have B := B.trans x99; refine t_d ?_; refine x_b ?_; refine x_s ?_; refine w_g ?_; refine t_m rfl ?_ rfl; refine t_sub rfl rfl (by omega) ?_ rfl; refine t_a rfl ?_ rfl; refine t_d ?_; have S := S.f3.f4.f4.f4.f4; refine x_r (X := Int × List ASd × Value × List Lnk × Value) (j - 1, A2.set k.toNat { eb with isd := ea.isd }, (.slice (some ⟨Gva2, 0, none⟩) A2.length Cva2), addL L2 y78 k 2, v108) ?_ (by exact ⟨rfl, rfl, rfl, rfl, rfl, rfl, trivial⟩) (by (try dsimp only); omega); (try dsimp only); exact ⟨by omega, by omega, by rw [List.length_set]; exact hA2, hKs, ⟨_, by omega, hadd⟩, B, S⟩
      ·intro hi; refine w_k ?_; refine x_b ?_; refine x_s ?_; refine w_g ?_; refine t_m rfl ?_ rfl; refine t_sub rfl rfl (by omega) ?_ rfl; refine t_a rfl ?_ rfl; refine t_d ?_; have S := S.f1.f4.f4.f3.f4; refine x_r (X := Int × List ASd × Value × List Lnk × Value) (j - 1, A2.set k.toNat { eb with isd := ea.isd }, (.slice (some ⟨Gva2, 0, none⟩) A2.length Cva2), L2, vl2) ?_ (by exact ⟨rfl, rfl, rfl, rfl, rfl, rfl, trivial⟩) (by (try dsimp only); omega); (try dsimp only); exact ⟨by omega, by omega, by rw [List.length_set]; exact hA2, hKs, ⟨m2, by omega, hG2⟩, B, S⟩
     ·intro ho; refine w_k ?_; refine x_s ?_; refine w_s ?_; refine w_draw (.st .take 0 (.st .take 1 (.st .take 2 (.st .take 3 (.st .take 4 (.st .take 5 (.st .take 6 (.st .take 7 (.st .take 8 (.st .take 9 (.st .take 10 (.st .take 11 (.st .take 12 .done))))))))))))) mixed (by kernel_rfl) ?_; intro w100 x101; have B := bx Hb B x101; have S := S.below x101; refine t_y fb_topo_0 rfl rfl ?_ rfl; refine t_bx1 S.tail.tail.box ab_s_asn rfl rfl ?_ rfl; refine t_m rfl ?_ rfl; refine t_idxx e_asn (k := y78.toNat) rfl rfl (by first | rfl | omega) (by omega) rfl ?_ rfl; refine t_y fb_asn_0 rfl rfl ?_ rfl; have S := S.f1; refine t_ldS (T := asnT) (j := 0) S ab_int rfl hea rfl rl_asn_0 ?_ rfl; refine t_y fb_topo_0 rfl rfl ?_ rfl; refine t_bx1 S.tail.tail.box ab_s_asn rfl rfl ?_ rfl; refine t_m rfl ?_ rfl; refine t_idxx e_asn (k := k.toNat) rfl rfl (by first | rfl | omega) (by omega) rfl ?_ rfl; refine t_y fb_asn_0 rfl rfl ?_ rfl; refine t_ldS (T := asnT) (j := 0) S ab_int rfl heb rfl rl_asn_0 ?_ rfl; refine t_eql rfl rfl ?_ rfl; refine t_e' ?_; refine w_if rfl ?_ ?_
      ·intro hi; refine w_g ?_; (iterate 2 refine t_m rfl ?_ rfl); have S := S.f3.f1.f3; refine t_f Tryz.call137 rfl (spec_l5Add y78 k 2 S (by omega)) ?_ rfl; rintro e w102 ⟨v108, rfl, S, x103⟩; refine ⟨_, rfl, ?_⟩; have B := B.trans x103; refine t_d ?_; refine x_b ?_; refine x_s ?_; refine w_g ?_; refine t_m rfl ?_ rfl; refine t_sub rfl rfl (by omega) ?_ rfl; refine t_a rfl ?_ rfl; refine t_d ?_; have S := S.f3.f4.f4.f4.f4; refine x_r (X := Int × List ASd × Value × List Lnk × Value) (j - 1, A2, (.slice (some ⟨Gva2, 0, none⟩) A2.length Cva2), addL L2 y78 k 2, v108) ?_ (by exact ⟨rfl, rfl, rfl, rfl, rfl, rfl, trivial⟩) (by (try dsimp only); omega); (try dsimp only); exact ⟨by omega, by omega, hA2, hK2, ⟨_, by omega, hadd⟩, B, S⟩
      ·intro hi; refine w_k ?_; refine x_b ?_; refine x_s ?_; refine w_g ?_; refine t_m rfl ?_ rfl; refine t_sub rfl rfl (by omega) ?_ rfl; refine t_a rfl ?_ rfl; refine t_d ?_; have S := S.f1.f4.f4.f3.f4; refine x_r (X := Int × List ASd × Value × List Lnk × Value) (j - 1, A2, (.slice (some ⟨Gva2, 0, none⟩) A2.length Cva2), L2, vl2) ?_ (by exact ⟨rfl, rfl, rfl, rfl, rfl, rfl, trivial⟩) (by (try dsimp only); omega); (try dsimp only); exact ⟨by omega, by omega, hA2, hK2, ⟨m2, by omega, hG2⟩, B, S⟩
    ·intro hj; refine w_exit ?_; (iterate 2 refine x_then_exit ?_); refine x_block_exit ?_; refine x_s ?_; refine w_h ?_; (iterate 4 refine t_m rfl ?_ rfl); refine t_sub rfl rfl (by omega) ?_ rfl; refine t_add rfl rfl (by omega) ?_ rfl; have S := S.f4; refine t_f Tryz.call68 rfl (spec_l1Below ((k - (1 + y16)) + 1) S (K.below B)) ?_ rfl; rintro e w104 ⟨y115, rfl, hf115, S, x105⟩; refine ⟨_, rfl, ?_⟩; have B := B.trans x105; refine t_add rfl rfl (by omega) ?_ rfl; refine t_a rfl ?_ rfl; refine t_k ?_; (iterate 2 refine t_m rfl ?_ rfl); refine t_lss rfl rfl ?_ rfl; refine t_m rfl ?_ rfl
     have hadd : (1 + y16) + y115 < k → Grown N (m2 + 1) (addL L2 ((1 + y16) + y115) k 3) := fun h => hG2.add _ k 3 (by omega) h (by omega) (by omega) (by omega)
     refine t_partp (t := 120) rfl ?_ ?_
     ·intro h1; refine t_on rfl rfl ?_; refine t_m rfl ?_ rfl; refine t_on rfl rfl ?_; refine t_f Tryz.call70 rfl (spec_l1Once 3 S (K.below B)) ?_ rfl; rintro e w106 ⟨y122, rfl, hf122, S, x107⟩; refine ⟨_, rfl, ?_⟩; have B := B.trans x107; refine t_q rfl rfl ?_ rfl; refine t_e ?_; refine w_if rfl ?_ ?_
      ·intro h2; refine w_g ?_; (iterate 2 refine t_m rfl ?_ rfl); have S := S.f3.f3.f3; refine t_f Tryz.call137 rfl (spec_l5Add ((1 + y16) + y115) k 3 S (by omega)) ?_ rfl; rintro e w108 ⟨v126, rfl, S, x109⟩; refine ⟨_, rfl, ?_⟩; have B := B.trans x109; refine t_d ?_; refine x_b ?_; refine x_s ?_; refine w_g ?_; refine t_m rfl ?_ rfl; refine t_add rfl rfl (by omega) ?_ rfl; refine t_a rfl ?_ rfl; refine t_d ?_; have S := S.f3.f4.f4.f4.f4; refine x_r (X := Int × List ASd × Value × List Lnk × Value) (k + 1, A2, va2, addL L2 ((1 + y16) + y115) k 3, v126) ?_ (by exact ⟨rfl, rfl, rfl, rfl, rfl, trivial⟩) (by (try dsimp only); omega); (try dsimp only); exact ⟨by omega, by omega, by omega, hA2, hK2, ⟨_, by omega, hadd h1⟩, B, S⟩
      ·intro h2; refine w_k ?_; refine x_b ?_; refine x_s ?_; refine w_g ?_; refine t_m rfl ?_ rfl; refine t_add rfl rfl (by omega) ?_ rfl; refine t_a rfl ?_ rfl; refine t_d ?_; have S := S.f4.f4.f4.f4; refine x_r (X := Int × List ASd × Value × List Lnk × Value) (k + 1, A2, va2, L2, vl2) ?_ (by exact ⟨rfl, rfl, rfl, rfl, rfl, trivial⟩) (by (try dsimp only); omega); (try dsimp only); exact ⟨by omega, by omega, by omega, hA2, hK2, ⟨m2, by omega, hG2⟩, B, S⟩
     ·intro h1; (iterate 2 refine t_off rfl rfl rfl ?_ rfl); refine t_p rfl rfl ?_ rfl; refine t_e ?_; refine w_no rfl ?_; refine w_k ?_; refine x_b ?_; refine x_s ?_; refine w_g ?_; refine t_m rfl ?_ rfl; refine t_add rfl rfl (by omega) ?_ rfl; refine t_a rfl ?_ rfl; refine t_d ?_; have S := S.f4.f4.f4.f4; refine x_r (X := Int × List ASd × Value × List Lnk × Value) (k + 1, A2, va2, L2, vl2) ?_ (by exact ⟨rfl, rfl, rfl, rfl, rfl, trivial⟩) (by (try dsimp only); omega); (try dsimp only); exact ⟨by omega, by omega, by omega, hA2, hK2, ⟨m2, by omega, hG2⟩, B, S⟩
   ·intro hge3; refine w_exit ?_; (iterate 2 refine x_then_exit ?_); refine x_block_exit ?_; refine x_s ?_; refine w_h ?_; refine t_lit (T := linkT) (css := []) (l := []) link_flat S bs_link0 rfl rfl rfl rfl (Nat.zero_le _) litR_nil ?_ rfl rfl; intro u127 w110 x111 S; have B := bx Hb B x111; refine t_a rfl ?_ rfl; refine t_e ?_; (iterate 2 refine w_s ?_); refine w_g ?_; refine t_a rfl ?_ rfl; refine t_e ?_; refine w_block ?_; have hL := hG.len; refine w_loop (X := Nat × List Lnk × Value) (fun x wq => (fun k2 L2 vl2 => k2 ≤ L.length ∧ L2.Sublist (L.take k2) ∧ Below b w wq ∧ Sep b wq (slO linkT 90 vl2 L2 :: bxO g3 27 #[va, vl] :: slO asnT 117 va A :: slO linkT 90 vl L :: bxO g2 27 #[.slice none 0 0, .slice none 0 0] :: curO v n c 123 :: os)) x.1 x.2.1 x.2.2) (fun x => (fun k2 L2 vl2 => [(13, I ((k2 : Int))), (12, vl2), (2, .pointer (some ⟨g2, 0, none⟩)), (3, .pointer (some ⟨g3, 0, none⟩))]) x.1 x.2.1 x.2.2) (fun x => (fun k2 L2 vl2 => L.length - k2) x.1 x.2.1 x.2.2) (0, [], _) ?_ ⟨rfl, rfl, rfl, rfl, trivial⟩ ?_
    ·exact ⟨by omega, by simp, B, S⟩
    rintro ⟨k2, L2, vl2⟩ w112 hI; (try dsimp only at hI ⊢); obtain ⟨hk5, hsub, B, S⟩ := hI; have hl2 := hsub.length_le; rw [List.length_take] at hl2; (iterate 2 refine w_s ?_); refine w_g ?_; refine t_m rfl ?_ rfl; refine t_y fb_topo_1 rfl rfl ?_ rfl; refine t_bx1 S.tail.box ab_s_link rfl rfl ?_ rfl; refine t_len e_link (S.tail.tail.tail.sl) rfl rfl ?_ rfl; refine t_lss rfl rfl ?_ rfl; refine t_e ?_; refine w_if rfl ?_ ?_
    ·intro hlt5; refine w_k ?_; refine x_s ?_; refine w_s ?_; refine w_block ?_; refine w_s ?_; refine w_draw (.st .take 0 (.st .take 1 (.st .take 2 (.st .take 3 (.st .take 4 (.st .take 5 (.st .run 6 .done))))))) mixed (by kernel_rfl) ?_; intro w113 x114; have B := bx Hb B x114; have S := S.below x114; refine t_b S.tail.box ab_topo sb_topo rfl rfl ?_ rfl; refine t_y fb_topo_1 rfl rfl ?_ rfl; refine t_bx1 S.tail.box ab_s_link rfl rfl ?_ rfl; refine t_m rfl ?_ rfl; obtain ⟨e139, he139⟩ : ∃ e, (L)[k2]? = some e := getx (by omega); refine t_idx e_link (k := k2) (S.tail.tail.tail.sl) he139 (Below.refl _ _) rfl rfl (by first | rfl | omega) ?_ rfl; intro p139 hp139; refine t_lda ‹_› ab_link sb_link (Below.refl _ _) rfl ?_ rfl; intro v140 hv140; obtain rfl := link_va hv140; refine t_c Tryz.call138 rfl (spec_l5LinkOk A L _ _ _ _ (topo_mkv (S.tail.tail.sl) (S.tail.tail.tail.sl)) (by first | assumption | exact VA.below ‹_› B) (by simp only [sz_topo]; omega)) ?_ rfl rfl; rintro e w115 ⟨y141, rfl, x116⟩; refine ⟨_, rfl, x116, ?_⟩; have B := bx Hb B x116; have S := S.below x116; replace hp139 := hp139.below x116; refine t_e' ?_
     have hsub2 : L2.Sublist (L.take (k2 + 1)) := hsub.trans (List.take_sublist_take_left (by omega)); refine w_ifb rfl ?_ ?_
     ·intro hb; refine w_g ?_; refine t_m rfl ?_ rfl; refine t_y fb_topo_1 rfl rfl ?_ rfl; refine t_bx1 S.tail.box ab_s_link rfl rfl ?_ rfl; refine t_m rfl ?_ rfl; refine t_idx e_link (k := k2) (S.tail.tail.tail.sl) he139 (Below.refl _ _) rfl rfl (by first | rfl | omega) ?_ rfl; intro p146 hp146; refine t_lda ‹_› ab_link sb_link (Below.refl _ _) rfl ?_ rfl; intro v147 hv147; obtain rfl := link_va hv147; refine t_lit (T := linkT) (l := [(e139 : Lnk)]) (css := [[I e139.a, I e139.ai, I e139.b, I e139.bi, I e139.kind]]) link_flat S (fun w => bs_link1 _ _ _ _ _ w) rfl rfl rfl rfl (by simp [maxLen]) (litR_one fun _ => rfl) ?_ rfl rfl; intro u148 w117 x118 S; have B := bx Hb B x118; have hR := S.sl; have S := S.f1; refine t_cat link_flat e_link S hR rfl rfl rfl (by first | omega | (simp [-List.length_flatMap]; omega)) (by (simp [maxLen, -List.length_flatMap]; try omega)) ?_ rfl; intro v149 w119 x120 S; have B := B.trans x120; clear hR; have S := S.f1.tail; refine t_a rfl ?_ rfl; refine t_d ?_; refine x_b ?_; refine x_s ?_; refine w_g ?_; refine t_m rfl ?_ rfl; refine t_add rfl rfl (by omega) ?_ rfl; refine t_a rfl ?_ rfl; refine t_d ?_
      refine x_r (X := Nat × List Lnk × Value) (k2 + 1, L2 ++ [e139], v149) ?_ (by exact ⟨rfl, rfl, rfl, rfl, trivial⟩) (by (try dsimp only); omega); (try dsimp only); refine ⟨by omega, ?_, B, S⟩; rw [take_succ he139]; exact hsub.append (List.Sublist.refl _)
     ·intro hb; refine w_k ?_; refine x_b ?_; refine x_s ?_; refine w_g ?_; refine t_m rfl ?_ rfl; refine t_add rfl rfl (by omega) ?_ rfl; refine t_a rfl ?_ rfl; refine t_d ?_; refine x_r (X := Nat × List Lnk × Value) (k2 + 1, L2, vl2) ?_ (by exact ⟨rfl, rfl, rfl, rfl, trivial⟩) (by (try dsimp only); omega); (try dsimp only); exact ⟨by omega, hsub2, B, S⟩
    ·intro hge5; refine w_exit ?_; (iterate 2 refine x_then_exit ?_); refine x_block_exit ?_; refine x_s ?_; refine w_h ?_; refine t_m rfl ?_ rfl; refine t_y fb_topo_1 rfl rfl ?_ rfl; obtain ⟨Avl2, cvl2, rfl, _⟩ := S.sl.form; have S := S.f1; refine t_st1 S sb_s_link rfl rfl rfl rfl rfl ?_; intro w121 b122 S; have B := B.trans b122; refine t_k ?_; refine t_b S.box ab_topo sb_topo rfl rfl ?_ rfl; have S := S.f4; refine t_stn S sb_topo rfl rfl rfl rfl (by repeat first | exact oc0 | refine oc rfl ?_ | refine oc (SlR.cells (S.tail.tail.tail.sl)).2 ?_ | refine oc (SlR.cells (S.tail.tail.sl)).2 ?_) ?_; intro w123 b124 S; have B := B.trans b124; refine t_e ?_; refine w_r ?_; refine x_retc rfl rfl S.box ab_topo sb_topo rfl ?_; exact ⟨va, _, A, L2, rfl, ⟨⟨by omega, by omega, hK⟩, m, L, by omega, by rw [hA]; exact hG, by rw [List.take_of_length_le (by omega)] at hsub; exact hsub⟩, S.tail.tail.f2.tail.f1, B⟩
/-- A link as_ it is drawn, among n realms. -/
def LnkK (n : Nat) (x : Lnk) : Prop := 0 ≤ x.a ∧ x.a < x.b ∧ x.b < n ∧ 1 ≤ x.ai ∧ x.ai ≤ 6 ∧ 1 ≤ x.bi ∧ x.bi ≤ 6 ∧ 1 ≤ x.kind ∧ x.kind ≤ 3
theorem Grown.mem {n m : Nat} {L : List Lnk} (h : Grown n m L) : ∀ x ∈ L, LnkK n x := by
  induction h with
  | nil => simp
  | add a c k h h1 h2 h3 h4 h5 ih =>
    intro x hx
    unfold addL at hx
    split at hx
    · rename_i hc
      rw [List.mem_append, List.mem_singleton] at hx
      rcases hx with hx | rfl
      · exact ih x hx
      · refine ⟨h1, h2, h3, ?_, hc.1, ?_, hc.2, h4, h5⟩ <;> dsimp only <;> omega
    · exact ih x hx
def verifyPath (t : Topo) (p : Path) : Bool := p.all (verifyPart t)
theorem kinds (a : Int) : a = 5 ∨ a = 2 ∨ a = 3 ∨ a = 1 ∨ ((a == 5) = false ∧ (a == 2) = false ∧ (a == 3) = false ∧ (a == 1) = false) := by
  simp only [beq_eq_false_iff_ne, ne_eq]; omega
def leastStep (o : Option Int) (h : Hop) : Option Int := match o with
  | none => some h.exp
  | some m => some (if h.exp < m then h.exp else m)
def leastO (hs : List Hop) : Option Int := hs.foldl leastStep none
/-- The least expiry, 0 if there is no hop. -/
def leastE (hs : List Hop) : Int := (leastO hs).getD 0
theorem leastO_snoc (hs : List Hop) (x : Hop) : leastO (hs ++ [x]) = leastStep (leastO hs) x := by unfold leastO; rw [List.foldl_append]; rfl
theorem leastO_none (hs : List Hop) : leastO hs = none ↔ hs = [] := by
  constructor
  · intro h
    rcases List.eq_nil_or_concat hs with h1 | ⟨t, x, h1⟩
    · exact h1
    · rw [h1, List.concat_eq_append, leastO_snoc] at h
      unfold leastStep at h
      split at h <;> cases h
  · rintro rfl
    rfl
theorem leastE_snoc {hs : List Hop} (x : Hop) (h : hs ≠ []) : leastE (hs ++ [x]) = if x.exp < leastE hs then x.exp else leastE hs := by
  unfold leastE
  rw [leastO_snoc]; cases ho : leastO hs with
  | none => exact absurd ((leastO_none hs).1 ho) h
  | some m => rfl
def place (k : Int) : Int := if k = 1 then 1 else if k = 2 then 2 else if k = 3 then 2 else 3
def lastIa (y : Part) : Int := match y.hops[y.hops.length - 1]? with
  | some h => h.ia
  | none => 0
def firstIa (y : Part) : Int := match y.hops[0]? with
  | some h => h.ia
  | none => 0
def joinOk (p : Path) (k : Nat) : Bool := match p[k]?, p[k + 1]? with
  | some y, some x => decide (place y.kind < place x.kind) && decide (lastIa y = firstIa x)
  | _, _ => true
def wellFormed (t : Topo) (p : Path) : Bool := inR (List.length p) 1 3 && p.all (validPart t) && (List.range (List.length p - 1)).all (joinOk p)
theorem joinOk_eq {p : Path} {k : Nat} {x y : Part} (h : p[k]? = some y) (h' : p[k + 1]? = some x) : joinOk p k = (decide (place y.kind < place x.kind) && decide (lastIa y = firstIa x)) := by unfold joinOk; rw [h, h']
theorem valid_len {t : Topo} {x : Part} (h : validPart t x = true) : 1 ≤ x.hops.length := by
  unfold validPart hopsOk at h
  simp only [Bool.and_eq_true] at h
  have := (inR_iff.1 h.1.1.1.1.1).1
  omega
def fresh (l : List Int) (k : Nat) : Bool := match l[k]? with
  | some x => !(l.take k).contains x
  | none => true
def simplePath (t : Topo) (p : Path) : Bool := wellFormed t p && (List.range (nums (pathSteps p)).length).all (fresh (nums (pathSteps p)))
def partNow (now : Int) (x : Part) : Bool := decide (x.ts ≤ now) && decide (now ≤ leastE x.hops)
def usable (t : Topo) (p : Path) (now : Int) : Bool := simplePath t p && verifyPath t p && p.all (partNow now)
theorem ends_iff {x : Lnk} {r d : Int} : ends x r d = true ↔ (x.a = r ∧ x.ai = d) ∨ (x.b = r ∧ x.bi = d) := by
  unfold ends; simp
theorem mem_ifsStep {r : Int} {acc : List Int} {x : Lnk} {d : Int} : d ∈ ifsStep r acc x ↔ d ∈ acc ∨ ends x r d = true := by
  rw [ends_iff]
  unfold ifsStep
  dsimp only
  by_cases ha : x.a = r <;> by_cases hb : x.b = r <;> simp only [ha, hb, if_true, if_false, mem_putL, true_and, false_and, or_false, false_or]
  · exact ⟨fun h => h.elim (fun h => .inr (.inr h.symm)) fun h => h.elim (fun h => .inr (.inl h.symm)) .inl, fun h => h.elim (fun h => .inr (.inr h)) fun h => h.elim (fun h => .inr (.inl h.symm)) fun h => .inl h.symm⟩
  · exact ⟨fun h => h.elim (fun h => .inr h.symm) .inl, fun h => h.elim .inr fun h => .inl h.symm⟩
  · exact ⟨fun h => h.elim (fun h => .inr h.symm) .inl, fun h => h.elim .inr fun h => .inl h.symm⟩
theorem mem_ifs {L : List Lnk} {r d : Int} : d ∈ ifs L r ↔ ∃ x ∈ L, ends x r d = true := by
  suffices h : ∀ (L : List Lnk) acc, d ∈ L.foldl (ifsStep r) acc ↔ d ∈ acc ∨ ∃ x ∈ L, ends x r d = true by
    have := h L []
    simpa [ifs] using this
  intro L
  induction L with
  | nil => simp
  | cons a t ih =>
    intro acc; rw [List.foldl_cons, ih, mem_ifsStep]
    simp [or_assoc]
theorem findL_of {L : List Lnk} {r d : Int} {x : Lnk} (hx : x ∈ L) (he : ends x r d = true) : ∃ i y, findL L r d = some i ∧ L[i]? = some y ∧ y ∈ L ∧ ends y r d = true := by
  unfold findL
  cases h : L.findIdx? (fun x => ends x r d) with
  | none =>
    rw [List.findIdx?_eq_none_iff] at h; rw [h x hx] at he; cases he
  | some i =>
    rw [List.findIdx?_eq_some_iff_getElem] at h; obtain ⟨hlt, hp, _⟩ := h; exact ⟨i, L[i], rfl, List.getElem?_eq_getElem hlt, List.getElem_mem hlt, hp⟩
theorem remote_of {t : Topo} {r d : Int} {i : Nat} {y : Lnk} (h1 : findL t.links r d = some i) (h2 : t.links[i]? = some y) : remote t r d = if y.a = r ∧ y.ai = d then (y.b, y.bi) else (y.a, y.ai) := by
  unfold remote
  rw [h1, Option.bind_some, h2]
theorem remote_in {A : List ASd} {L : List Lnk} (hK : ∀ x ∈ L, LnkK A.length x) {r d : Int} (hd : d ∈ ifs L r) : (0 ≤ (remote ⟨A, L⟩ r d).1 ∧ (remote ⟨A, L⟩ r d).1 < A.length) ∧ 1 ≤ (remote ⟨A, L⟩ r d).2 ∧ (remote ⟨A, L⟩ r d).2 ≤ 6 := by
  obtain ⟨x, hx, he⟩ := mem_ifs.1 hd; obtain ⟨i, y, h1, h2, h3, h4⟩ := findL_of hx he; rw [remote_of (t := ⟨A, L⟩) h1 h2]; obtain ⟨k1, k2, k3, k4, k5, k6, k7, k8, k9⟩ := hK y h3
  split
  · exact ⟨⟨by dsimp only; omega, k3⟩, k6, k7⟩
  · exact ⟨⟨k1, by dsimp only; omega⟩, k4, k5⟩
theorem ifs_in {n : Nat} {L : List Lnk} (hK : ∀ x ∈ L, LnkK n x) {r d : Int} (hd : d ∈ ifs L r) : 1 ≤ d ∧ d ≤ 6 := by
  obtain ⟨x, hx, he⟩ := mem_ifs.1 hd; obtain ⟨k1, k2, k3, k4, k5, k6, k7, k8, k9⟩ := hK x hx
  rcases ends_iff.1 he with ⟨_, rfl⟩ | ⟨_, rfl⟩ <;> omega
theorem ifsK_in {n : Nat} {A : List ASd} {L : List Lnk} (hK : ∀ x ∈ L, LnkK n x) {r k d : Int} (hd : d ∈ ifsK ⟨A, L⟩ r k) : d ∈ ifs L r ∧ (1 ≤ d ∧ d ≤ 6) := by
  unfold ifsK at hd
  have := (List.mem_filter.1 hd).1; exact ⟨this, ifs_in hK this⟩
/-- A topology as_ it is drawn. -/
def TopK (A : List ASd) (L : List Lnk) : Prop := (1 ≤ A.length ∧ A.length ≤ 8 ∧ ∀ x ∈ A, AsK x) ∧ ∃ m L0, m ≤ 60 ∧ Grown A.length m L0 ∧ L.Sublist L0
theorem TopK.lnk {A : List ASd} {L : List Lnk} (h : TopK A L) : ∀ x ∈ L, LnkK A.length x := by
  obtain ⟨_, m, L0, _, hG, hs⟩ := h
  exact fun x hx => hG.mem x (hs.subset hx)
theorem TopK.len {A : List ASd} {L : List Lnk} (h : TopK A L) : L.length ≤ 60 := by
  obtain ⟨_, m, L0, hm, hG, hs⟩ := h; exact Nat.le_trans (Nat.le_trans hs.length_le hG.len) hm
theorem mac_in (key ts beta : Int) (h : Hop) : 0 ≤ hopMac key ts beta h ∧ hopMac key ts beta h ≤ 2147483646 := by
  have := digest_bd ([key] ++ [ts, beta, h.ia, h.ing, h.eg, h.exp] ++ [key])
  unfold hopMac computeMac
  omega
theorem isAS_iff {A : List ASd} {L : List Lnk} {r : Int} : isAS ⟨A, L⟩ r = true ↔ 0 ≤ r ∧ r < A.length := by
  unfold isAS
  rw [inR_iff]
  show 0 ≤ r ∧ r ≤ (A.length : Int) - 1 ↔ _
  omega
theorem asKey_of {A : List ASd} {L : List Lnk} {r : Int} {x : ASd} (h : A[r.toNat]? = some x) : asKey ⟨A, L⟩ r = x.key := by
  unfold asKey
  rw [h]
/-- Hops that are sealed right, one after the other. -/
inductive SealK (t : Topo) (ts beta : Int) : List Hop → Prop
  | nil : SealK t ts beta []
  | snoc {l : List Hop} {h : Hop} : SealK t ts beta l → verifyHop t ts (chainAdd beta (l.map Hop.mac)) h = true → SealK t ts beta (l ++ [h])
/-- A segment as_ it is drawn. -/
def SegK (t : Topo) (s : Seg) : Prop := (0 ≤ s.ts ∧ s.ts ≤ 49 ∧ 0 ≤ s.beta ∧ s.beta ≤ 999999 ∧ s.hops.length ≤ 5) ∧ SealK t s.ts s.beta s.hops
theorem SealK.seg {t : Topo} {ts beta : Int} {l : List Hop} (h : SealK t ts beta l) (h0 : 0 ≤ ts) (h1 : ts ≤ 49) (h2 : 0 ≤ beta) (h3 : beta ≤ 999999) (hl : l.length ≤ 5) : SegK t ⟨ts, beta, l⟩ := ⟨⟨h0, h1, h2, h3, hl⟩, h⟩
theorem SealK.hop {t : Topo} {ts beta : Int} {l : List Hop} (h : SealK t ts beta l) : ∀ x ∈ l, validHop x = true := by
  induction h with
  | nil => simp
  | snoc _ h2 ih =>
    intro x hx; rw [List.mem_append, List.mem_singleton] at hx
    rcases hx with hx | rfl
    · exact ih x hx
    · unfold verifyHop at h2
      rw [Bool.and_eq_true] at h2; exact h2.1
theorem segBeta_all (ts beta : Int) (l : List Hop) : segBeta ⟨ts, beta, l⟩ l.length = chainAdd beta (l.map Hop.mac) := by
  unfold segBeta
  rw [if_pos (inR_iff.2 ⟨by omega, by show (l.length : Int) ≤ l.length; omega⟩)]
  show chainAdd beta ((l.take (l.length : Int).toNat).map Hop.mac) = _
  rw [show (l.length : Int).toNat = l.length by omega, List.take_length]
theorem seal_next {A : List ASd} {L : List Lnk} {ts beta : Int} {l : List Hop} (hS : SealK ⟨A, L⟩ ts beta l) {r i e x m : Int} {as' : ASd} (hA : A.length ≤ 8) (hr : 0 ≤ r ∧ r < A.length) (ha : A[r.toNat]? = some as') (hi : 0 ≤ i ∧ i ≤ 6) (he : 0 ≤ e ∧ e ≤ 6) (hne : i ≠ e) (hx : 0 ≤ x ∧ x ≤ 1000000) (hm : m = hopMac as'.key ts (segBeta ⟨ts, beta, l⟩ l.length) ⟨r, i, e, x, 0⟩) : SealK ⟨A, L⟩ ts beta (l ++ [⟨r, i, e, x, m⟩]) := by
  refine .snoc hS ?_; rw [segBeta_all] at hm; have hmi := mac_in as'.key ts (chainAdd beta (l.map Hop.mac)) ⟨r, i, e, x, 0⟩; rw [← hm] at hmi
  unfold verifyHop
  rw [Bool.and_eq_true, Bool.and_eq_true, decide_eq_true_eq]; refine ⟨?_, isAS_iff.2 hr, ?_⟩
  · unfold validHop
    simp only [Bool.and_eq_true, inR_iff, bne_iff_ne, ne_eq]
    exact ⟨⟨⟨⟨⟨by omega, hi⟩, he⟩, hne⟩, hx⟩, hmi⟩
  · show m = hopMac (asKey ⟨A, L⟩ r) ts _ _
    rw [asKey_of ha]; exact hm
def Res (n : Int) : Prop := 0 ≤ n ∧ n ≤ 2147483646
theorem addM_in (b s : Int) : Res (addM b s) := by
  unfold addM Res
  split
  · constructor
    · exact Int.emod_nonneg _ (by omega)
    · have := Int.emod_lt_of_pos (b + s) (b := 2147483647) (by omega); omega
  · omega
theorem chain_in {b : Int} (hb : Res b) : ∀ l : List Int, Res (chainAdd b l) := by
  intro l
  unfold chainAdd
  induction l generalizing b with
  | nil => exact hb
  | cons a t ih => rw [List.foldl_cons]; exact ih (addM_in b a)
theorem sub_add {c m : Int} (hc : Res c) (hm : Res m) : subM (addM c m) m = c := by
  have h1 := addM_in c m
  have e1 : addM c m = (c + m) % 2147483647 := by
    unfold addM
    rw [inR_iff.2 hc, inR_iff.2 hm]; rfl
  have e2 : subM (addM c m) m = (addM c m - m + 2147483647) % 2147483647 := by
    unfold subM
    rw [inR_iff.2 h1, inR_iff.2 hm]; rfl
  rw [e2, e1]
  unfold Res at *
  omega
theorem fold_add (b : Int) (l : List Hop) : l.foldl (betaStep false) b = chainAdd b (l.map Hop.mac) := by
  unfold chainAdd
  rw [List.foldl_map]
  rfl
theorem SealK.at_ {t : Topo} {ts beta : Int} {l : List Hop} (h : SealK t ts beta l) : ∀ (k : Nat) x, l[k]? = some x → verifyHop t ts (chainAdd beta ((l.take k).map Hop.mac)) x = true := by
  induction h with
  | nil => intro k x hx; simp at hx
  | snoc _ h2 ih =>
    rename_i l h _
    intro k x hx
    rcases Nat.lt_or_ge k l.length with q | q
    · rw [List.getElem?_append_left q] at hx
      rw [List.take_append_of_le_length (by omega)]; exact ih k x hx
    · have hlt := (List.getElem?_eq_some_iff.1 hx).1
      rw [List.length_append, List.length_singleton] at hlt
      have e : k = l.length := by omega
      subst e; rw [List.getElem?_append_right q, Nat.sub_self] at hx; cases hx; rw [List.take_left']
      · exact h2
      · rfl
theorem SealK.mac {t : Topo} {ts beta : Int} {l : List Hop} (h : SealK t ts beta l) {x : Hop} (hx : x ∈ l) : Res x.mac := by
  have := h.hop x hx
  unfold validHop at this
  simp only [Bool.and_eq_true] at this
  exact inR_iff.1 this.2
theorem chain_take {b : Int} {l : List Hop} {k : Nat} {x : Hop} (h : l[k]? = some x) : chainAdd b ((l.take (k + 1)).map Hop.mac) = addM (chainAdd b ((l.take k).map Hop.mac)) x.mac := by
  rw [take_succ h, List.map_append]
  unfold chainAdd
  rw [List.foldl_append]; rfl
/-- Going back from the end undoes what was added. -/
theorem fold_back {b : Int} (hb : Res b) {l : List Hop} (hm : ∀ x ∈ l, Res x.mac) (i : Nat) : ∀ j, j ≤ l.length - i → ((l.drop i).reverse.take j).foldl (betaStep true) (chainAdd b (l.map Hop.mac)) = chainAdd b ((l.take (l.length - j)).map Hop.mac) := by
  intro j
  induction j with
  | zero => intro _; rw [List.take_zero, Nat.sub_zero, List.take_length]; rfl
  | succ j ih =>
    intro hj; have hx := List.getElem?_eq_getElem (l := l) (i := l.length - 1 - j) (by omega)
    have hr : (l.drop i).reverse[j]? = some l[l.length - 1 - j] := by
      rw [List.getElem?_reverse (by rw [List.length_drop]; omega), List.length_drop, List.getElem?_drop]; rw [show i + (l.length - i - 1 - j) = l.length - 1 - j by omega]; exact hx
    rw [take_succ hr, List.foldl_append, ih (by omega)]
    show subM (chainAdd b _) _ = _
    rw [show l.length - j = (l.length - 1 - j) + 1 by omega, chain_take hx]; rw [sub_add (chain_in hb _) (hm _ (List.mem_of_getElem? hx)), show l.length - (j + 1) = l.length - 1 - j by omega]
theorem verify_make {t : Topo} {s : Seg} (h : SegK t s) (kind i : Int) : verifyPart t (makePart s kind i) = true := by
 obtain ⟨⟨_, _, hb0, hb1, _⟩, hS⟩ := h; have hb : Res s.beta := ⟨hb0, by omega⟩
 have hmac := fun x hx => hS.mac (x := x) hx
 unfold makePart
 split
 ·rename_i hc
  rw [Bool.and_eq_true] at hc; have hi := inR_iff.1 hc.1
  have hall : ∀ n : Nat, n ≤ s.hops.length → segBeta s n = chainAdd s.beta ((s.hops.take n).map Hop.mac) := fun n hn => by
   unfold segBeta
   rw [if_pos (inR_iff.2 ⟨by omega, by omega⟩), Int.toNat_natCast]
  split
  ·rename_i hr
   refine verify_all fun k x hx => ?_
   dsimp only at hx ⊢; have hk := (List.getElem?_eq_some_iff.1 hx).1; rw [List.length_reverse, List.length_drop] at hk
   unfold hopBeta betaAfter betaFold
   dsimp only; rw [hr]
   simp only [if_true]
   rw [if_pos (inR_iff.2 ⟨by omega, by rw [List.length_reverse, List.length_drop]; omega⟩), show ((k : Int) + 1).toNat = k + 1 by omega]; rw [hall _ (Nat.le_refl _), List.take_length, fold_back hb hmac _ _ (by omega)]; rw [List.getElem?_reverse (by rw [List.length_drop]; omega), List.length_drop, List.getElem?_drop] at hx; have := hS.at_ _ x hx; rw [show i.toNat + (s.hops.length - i.toNat - 1 - k) = s.hops.length - (k + 1) by omega] at this; exact this
  ·rename_i hr
   have hr' : isRev kind = false := by simpa using hr
   refine verify_all fun k x hx => ?_
   dsimp only at hx ⊢; have hk := (List.getElem?_eq_some_iff.1 hx).1; rw [List.length_drop] at hk
   unfold hopBeta betaAfter betaFold
   dsimp only; rw [hr']
   simp only [Bool.false_eq_true, if_false]
   rw [if_pos (inR_iff.2 ⟨by omega, by rw [List.length_drop]; omega⟩), Int.toNat_natCast, fold_add]; have h1 := hall i.toNat (by omega); rw [show ((i.toNat : Nat) : Int) = i by omega] at h1; rw [h1]; rw [List.getElem?_drop] at hx; have := hS.at_ _ x hx; rw [List.take_add, List.map_append] at this
   unfold chainAdd at this ⊢
   rw [List.foldl_append] at this; exact this
 ·exact verify_all fun k x hx => by simp at hx
set_option maxRecDepth 100000 in
theorem impl_PathLength (p : Path) (cs : List Value) (w : World) (h : pathT.R w cs p) (hz : sz_path p ≤ 1048576) (hl : lenOk_path p) (hg : rng_path p) :
    Calls Tryz.prog 15 #[.agg cs.toArray] w fun e w' => e = .returned (I ((pathSteps p).length : Int)) ∧ Below w.heap.size w w' := by
  have h0 := h; obtain ⟨A, c, rfl, _⟩ := path_form h
  have HC := hid fun w' (hw : Below w.heap.size w w') => impl_PathSteps p _ w' (pathT.kp h0 hw) hz hl hg
  clear hz hl hg h h0; have hb0 : Below w.heap.size w (w.alloc (.cells #[.slice A (List.length p) c] 38)) := ext_alloc1 _ _
  go_enter Tryz.func15, Tryz.ntmps15
  go_wp2_with (fail)
  refine (HC.out _ hb0).mono ?_; rintro e w1 ⟨v1, fp1, rfl, hO1, hb1⟩; obtain ⟨Av, cv, ev, _⟩ := hO1.form; subst ev
  go_wp2_with (fail)
  go_ret
  exact ⟨rfl, ext_trans hb0 hb1⟩
set_option maxRecDepth 100000 in
theorem spec_PathLength (p : Path) (cs : List Value) (w : World) (h : pathT.R w cs p) (hz : sz_path p ≤ 1048576) (hl : lenOk_path p) (hg : rng_path p) :
    Calls Tryz.prog 36 #[.agg cs.toArray] w fun e w' => e = .returned (I ((pathSteps p).length : Int)) ∧ Below w.heap.size w w' := by
  have h0 := h; obtain ⟨A, c, rfl, _⟩ := path_form h
  have HC := hid fun w' (hw : Below w.heap.size w w') => spec_PathSteps p _ w' (pathT.kp h0 hw) hz hl hg
  clear hz hl hg h h0; have hb0 : Below w.heap.size w (w.alloc (.cells #[.slice A (List.length p) c] 38)) := ext_alloc1 _ _
  go_enter Tryz.func36, Tryz.ntmps36
  go_wp2_with (fail)
  refine (HC.out _ hb0).mono ?_; rintro e w1 ⟨v1, fp1, rfl, hO1, hb1⟩; obtain ⟨Av, cv, ev, _⟩ := hO1.form; subst ev
  go_wp2_with (fail)
  go_ret
  exact ⟨rfl, ext_trans hb0 hb1⟩
/-- The ends of a path. -/
def endA (p : Path) : Int := if (pathSteps p).length = 0 then -1 else (firstOf (pathSteps p)).ia
def endB (p : Path) : Int := if (pathSteps p).length = 0 then -1 else (lastOf (pathSteps p)).ia
/-- One step leads on to the next. -/
def LeadsTo (t : Topo) (s s' : Stp) : Prop := s.eg ≠ 0 ∧ s'.ing ≠ 0 ∧ remote t s.ia s.eg = (s'.ia, s'.ing)
def ChainK (t : Topo) (l : List Stp) : Prop := ∀ (k : Nat) s s', l[k]? = some s → l[k + 1]? = some s' → LeadsTo t s s'
theorem ChainK.nil {t : Topo} : ChainK t [] := fun k s s' h => by simp at h
theorem ChainK.snoc {t : Topo} {l : List Stp} {x : Stp} (h : ChainK t l) (hx : ∀ s, l[l.length - 1]? = some s → LeadsTo t s x) : ChainK t (l ++ [x]) := by
  intro k s s' h1 h2; have hlt := (List.getElem?_eq_some_iff.1 h2).1; rw [List.length_append, List.length_singleton] at hlt; rw [List.getElem?_append_left (by omega)] at h1
  rcases Nat.lt_or_ge (k + 1) l.length with q | q
  · rw [List.getElem?_append_left q] at h2
    exact h k s s' h1 h2
  · have e : k + 1 = l.length := by omega
    rw [List.getElem?_append_right q, e, Nat.sub_self] at h2; cases h2; exact hx s (by rw [← e]; exact h1)
theorem ChainK.setLast {t : Topo} {l : List Stp} {y x : Stp} (h : ChainK t l) (hy : l[l.length - 1]? = some y) (ha : x.ia = y.ia) (hi : x.ing = y.ing) : ChainK t (l.set (l.length - 1) x) := by
  intro k s s' h1 h2; have hlt := (List.getElem?_eq_some_iff.1 h2).1; rw [List.length_set] at hlt; rw [List.getElem?_set_ne (by omega)] at h1
  by_cases e : k + 1 = l.length - 1
  · rw [e, List.getElem?_set_self (by omega)] at h2
    cases h2; have := h k s y h1 (by rw [e]; exact hy)
    unfold LeadsTo at *
    rw [ha, hi]; exact this
  · rw [List.getElem?_set_ne (by omega)] at h2
    exact h k s s' h1 h2
theorem remote_door {t : Topo} (hK : ∀ x ∈ t.links, 1 ≤ x.ai ∧ 1 ≤ x.bi) {r d : Int} (h : 0 ≤ (remote t r d).1) : 1 ≤ (remote t r d).2 := by
  unfold remote at *
  split
  · rename_i he; rw [he] at h; simp at h
  · rename_i l he
    rw [he] at h; cases hf : findL t.links r d with
    | none => rw [hf] at he; simp at he
    | some i =>
      rw [hf, Option.bind_some] at he; obtain ⟨h1, h2⟩ := hK l (List.mem_of_getElem? he)
      split <;> assumption
theorem hopIa_good {t : Topo} {x : Part} (h : validPart t x = true) {j : Nat} (hj : j < x.hops.length) : 0 ≤ hopIa x j := by
  unfold validPart hopsOk at h
  simp only [Bool.and_eq_true, List.all_eq_true, List.mem_range] at h
  have hg := h.1.1.1.1.2 j hj; have e := List.getElem?_eq_getElem hj; rw [hopGood_eq e] at hg
  simp only [Bool.and_eq_true] at hg
  rw [hopIa_at e]; have := inR_iff.1 hg.1.2; exact this.1
theorem step_leads {t : Topo} (hK : ∀ x ∈ t.links, 1 ≤ x.ai ∧ 1 ≤ x.bi) {x : Part} (h : validPart t x = true) {j : Nat} (hj : j + 1 < x.hops.length) {s : Stp} (ha : s.ia = hopIa x j) (he : s.eg = partOut x j) : LeadsTo t s ⟨hopIa x (j + 1), partIn x (j + 1), partOut x (j + 1)⟩ := by
  have hn := hopIa_good h hj; have h' := h
  unfold validPart at h'
  simp only [Bool.and_eq_true, List.all_eq_true, List.mem_range] at h'
  have hg := h'.2 j (by omega); have e1 := List.getElem?_eq_getElem (l := x.hops) (i := j) (by omega); have e2 := List.getElem?_eq_getElem hj; rw [stepGood_eq e1 e2] at hg
  simp only [Bool.and_eq_true, decide_eq_true_eq] at hg
  rw [hopIa_at e1] at ha; rw [hopIa_at e2] at hn ⊢; have hd := remote_door hK (r := (x.hops[j]).ia) (d := partOut x j) (by rw [hg.1.2]; exact hn); refine ⟨by rw [he]; exact hg.1.1, ?_, ?_⟩
  · show partIn x (j + 1) ≠ 0
    rw [← hg.2]; omega
  · rw [ha, he]
    exact Prod.ext hg.1.2 hg.2
theorem hops_chain {t : Topo} (hK : ∀ x ∈ t.links, 1 ≤ x.ai ∧ 1 ≤ x.bi) {i : Nat} {x : Part} {l : List Stp} (hv : validPart t x = true) (hl : ChainK t l) (h0 : i = 0 → l = []) (h1 : 0 < i → 0 < l.length ∧ (lastOf l).ia = hopIa x 0) : ∀ j, j ≤ x.hops.length → ChainK t (hopsTo i x l j) ∧ (0 < j → 0 < (hopsTo i x l j).length ∧ ∃ s, (hopsTo i x l j)[(hopsTo i x l j).length - 1]? = some s ∧ s.ia = hopIa x (j - 1) ∧ s.eg = partOut x (j - 1)) := by
 intro j
 induction j with
 | zero => exact fun _ => ⟨hl, by omega⟩
 | succ j ih =>
  intro hj; obtain ⟨hc, hp⟩ := ih (by omega); rw [hopsTo_succ]
  generalize hq : hopsTo i x l j = q at hc hp ⊢
  cases hb : joinAt i x q j with
  | true =>
   rw [addHop_join hb]
   unfold joinAt at hb
   simp only [Bool.and_eq_true, decide_eq_true_eq, beq_iff_eq] at hb
   obtain ⟨_, hj0, hql, hia⟩ := hb
   have hs : q[q.length - 1]? = some (lastOf q) := by
    have := List.getElem?_eq_getElem (l := q) (i := q.length - 1) (by omega); rw [lastOf_at this]; exact this
   refine ⟨hc.setLast hs rfl rfl, fun _ => ⟨by rw [List.length_set]; exact hql, { lastOf q with eg := partOut x j }, ?_, ?_, ?_⟩⟩
   ·rw [List.length_set, List.getElem?_set_self (by omega)]
   ·show (lastOf q).ia = _
    rw [Nat.add_sub_cancel]; exact hia
   ·show partOut x j = _
    rw [Nat.add_sub_cancel]
  | false =>
   rw [addHop_new hb]; refine ⟨hc.snoc fun s hs => ?_, fun _ => ⟨by simp, _, by rw [List.length_append, List.length_singleton, Nat.add_sub_cancel, List.getElem?_append_right (Nat.le_refl _), Nat.sub_self]; rfl, by rw [Nat.add_sub_cancel], by rw [Nat.add_sub_cancel]⟩⟩
   rcases Nat.eq_zero_or_pos j with hj0 | hj0
   ·subst hj0
    exfalso
    have hql : q = l := by rw [← hq]; rfl
    rw [hql] at hs hb
    rcases Nat.eq_zero_or_pos i with hi | hi
    ·rw [h0 hi] at hs; simp at hs
    ·obtain ⟨k1, k2⟩ := h1 hi
     have : joinAt i x l 0 = true := by
      unfold joinAt
      simp only [Bool.and_eq_true, decide_eq_true_eq, beq_iff_eq]
      exact ⟨hi, trivial, k1, k2⟩
     rw [this] at hb; cases hb
   ·obtain ⟨_, s', hs', ha, he⟩ := hp hj0; rw [hs] at hs'; cases hs'; obtain ⟨m, rfl⟩ : ∃ m, j = m + 1 := ⟨j - 1, by omega⟩; rw [Nat.add_sub_cancel] at ha he; exact step_leads hK hv hj ha he
theorem wf_parts {t : Topo} {p : Path} (h : wellFormed t p = true) : (1 ≤ List.length p ∧ List.length p ≤ 3) ∧ (∀ x ∈ p, validPart t x = true) ∧ ∀ (k : Nat) y x, p[k]? = some y → p[k + 1]? = some x → place y.kind < place x.kind ∧ lastIa y = firstIa x := by
  unfold wellFormed at h
  simp only [Bool.and_eq_true, List.all_eq_true, List.mem_range] at h
  obtain ⟨⟨h1, h2⟩, h3⟩ := h; have := inR_iff.1 h1; refine ⟨by omega, h2, fun k y x hy hx => ?_⟩; have hlt := (List.getElem?_eq_some_iff.1 hx).1; have := h3 k (by omega); rw [joinOk_eq hy hx] at this
  simpa using this
theorem fIa_hop (y : Part) : firstIa y = hopIa y 0 := by
  unfold firstIa hopIa
  cases y.hops[0]? <;> rfl
theorem lIa_hop (y : Part) : lastIa y = hopIa y (y.hops.length - 1) := by
  unfold lastIa hopIa
  cases y.hops[y.hops.length - 1]? <;> rfl
theorem raw_chain {t : Topo} (hK : ∀ x ∈ t.links, 1 ≤ x.ai ∧ 1 ≤ x.bi) {p : Path} (h : wellFormed t p = true) : ∀ k, k ≤ List.length p → ChainK t (rawSteps p k) ∧ (k = 0 → rawSteps p k = []) ∧ (0 < k → 0 < (rawSteps p k).length ∧ ∀ x, p[k - 1]? = some x → (lastOf (rawSteps p k)).ia = lastIa x) := by
  obtain ⟨_, hv, hj⟩ := wf_parts h; intro k
  induction k with
  | zero => exact fun _ => ⟨ChainK.nil, fun _ => rfl, by omega⟩
  | succ k ih =>
    intro hk; obtain ⟨hc, h0, h1⟩ := ih (by omega); have hx := List.getElem?_eq_getElem (l := p) (i := k) (by omega); have hvx := hv _ (List.mem_of_getElem? hx); have hlen := valid_len hvx
    have hh := hops_chain (i := k) hK hvx hc h0 (fun hk0 => ⟨(h1 hk0).1, by
      have hy := List.getElem?_eq_getElem (l := p) (i := k - 1) (by omega); rw [(h1 hk0).2 _ hy, (hj (k - 1) _ _ hy (by rw [show k - 1 + 1 = k by omega]; exact hx)).2]
      exact fIa_hop _⟩) (p[k]).hops.length (Nat.le_refl _)
    rw [rawSteps_succ hx]; refine ⟨hh.1, by omega, fun _ => ⟨(hh.2 (by omega)).1, fun x hx' => ?_⟩⟩; rw [Nat.add_sub_cancel, hx] at hx'; cases hx'; obtain ⟨_, s, hs, ha, _⟩ := hh.2 (by omega); rw [lastOf_at hs, ha]; exact (lIa_hop _).symm
theorem cut_at_ (l : List Stp) (hl : 0 < l.length) : (cutLast (cutFirst l)).length = l.length ∧ ∀ (k : Nat) s, (cutLast (cutFirst l))[k]? = some s → ∃ r, l[k]? = some r ∧ s.ia = r.ia ∧ s.ing = (if k = 0 then 0 else r.ing) ∧ s.eg = (if k + 1 = l.length then 0 else r.eg) := by
  have hF : (cutFirst l).length = l.length := by unfold cutFirst; rw [List.length_set]
  have e0 := List.getElem?_eq_getElem (l := l) (i := 0) hl
  have hFa : ∀ (k : Nat) s, (cutFirst l)[k]? = some s → ∃ r, l[k]? = some r ∧ s.ia = r.ia ∧ s.ing = (if k = 0 then 0 else r.ing) ∧ s.eg = r.eg := by
    intro k s hs
    unfold cutFirst at hs
    rw [firstOf_at e0] at hs
    by_cases hk : k = 0
    · subst hk
      rw [List.getElem?_set_self hl] at hs; cases hs; exact ⟨_, e0, rfl, rfl, rfl⟩
    · rw [List.getElem?_set_ne (by omega)] at hs
      exact ⟨s, hs, rfl, by rw [if_neg hk], rfl⟩
  refine ⟨by unfold cutLast; rw [List.length_set, hF], fun k s hs => ?_⟩
  unfold cutLast at hs
  rw [hF] at hs; obtain ⟨z, hz⟩ : ∃ z, (cutFirst l)[l.length - 1]? = some z := ⟨_, List.getElem?_eq_getElem (by omega)⟩
  have hz' : (cutFirst l)[(cutFirst l).length - 1]? = some z := by rw [hF]; exact hz
  rw [lastOf_at hz'] at hs
  by_cases hk : k = l.length - 1
  · subst hk
    rw [List.getElem?_set_self (by omega)] at hs; cases hs; obtain ⟨r, h1, h2, h3, h4⟩ := hFa _ _ hz; exact ⟨r, h1, h2, h3, by rw [if_pos (by omega)]⟩
  · rw [List.getElem?_set_ne (by omega)] at hs
    obtain ⟨r, h1, h2, h3, h4⟩ := hFa k s hs; have := (List.getElem?_eq_some_iff.1 h1).1; exact ⟨r, h1, h2, h3, by rw [if_neg (by omega)]; exact h4⟩
section
variable {P : Program} {n : Nat} {Q : Exit → Act → World → Prop} {L : Frm} {w : World}
theorem w_cut {X : Type} (I : X → World → Prop) (F : X → Frm) {x y : Code} (hx : W P n (Exit.then (fun a w' => ∃ z, I z w' ∧ Env n (F z) a) Q) x L w) (hy : ∀ z w', I z w' → W P n Q y (F z) w') : W P n (Exit.then (y.wp P Q) Q) x L w := by
  intro a ha
  refine wp_mono (hx a ha) fun e a' w' hq => ?_
  cases e with
  | normal => obtain ⟨z, h1, h2⟩ := hq; exact hy z w' h1 a' h2
  | _ => exact hq
theorem x_cut {X : Type} {I : X → World → Prop} {F : X → Frm} (z : X) (hI : I z w) (hs : Sub (F z) L) : WX n (Exit.then (fun a w' => ∃ z, I z w' ∧ Env n (F z) a) Q) .normal L w := fun a ha => ⟨z, hI, ha.sub hs⟩
end
theorem t_offu {P : Program} {n : Nat} {ops : Array Oper} {Q : Exit → Act → World → Prop} {L : Frm} {w : World} {m : Md} {r : IT} {d : Nat} {ty : TypeId} {pos : String} {af : Array Edge} {op : Op} {j tj : Nat} {b : Bool} (hj : (ops[j]?).bind (·.dst) = some tj) (hg : look L tj = some undef) (k : WT P n ops Q r ((d, undef) :: L) w) (hn : Nat.blt d n = true) : WT P n ops Q (.st m ⟨some d, op, ty, pos, af, some (j, b)⟩ r) L w := by
  intro a ha
  have hy : yielded ops a.tmps j = none := by
    unfold yielded
    rw [hj, Option.bind_some, ha.at_ _ _ hg]
    rfl
  have hw : Region.wanted (⟨some d, op, ty, pos, af, some (j, b)⟩ : Oper) (yielded ops a.tmps) = false := by
    simp only [Region.wanted, hy]
    cases b <;> rfl
  have hk := k _ (ha.put hn undef); cases m with
  | take => exact ⟨undef, .inr ⟨hw, rfl⟩, hk⟩
  | run => simp only [wpT, hw]; exact hk
  | fin => simp only [wpT, hw]; exact hk
theorem b_seg2 (a b : Int) (w : World) : (Instr.build 67 #[(0, I a), (1, I b)]).run Tryz.prog w = .ok (.agg #[I a, I b, .slice none 0 0]) w := by kernel_rfl
theorem b_hop4 (a b c d : Int) (w : World) : (Instr.build 87 #[(0, I a), (1, I b), (2, I c), (3, I d)]).run Tryz.prog w = .ok (.agg #[I a, I b, I c, I d, I 0]) w := by kernel_rfl
def authHop (key ts beta : Int) (h : Hop) : Hop := { h with mac := hopMac key ts beta h }
theorem spec_AuthenticateHop (key ts beta : Int) (x : Hop) (w : World) : Calls Tryz.prog 142 #[I key, I ts, I beta, .agg #[I x.ia, I x.ing, I x.eg, I x.exp, I x.mac]] w fun e w' => e = .returned (.agg #[I (authHop key ts beta x).ia, I (authHop key ts beta x).ing, I (authHop key ts beta x).eg, I (authHop key ts beta x).exp, I (authHop key ts beta x).mac]) ∧ Below w.heap.size w w' := by
 have X0 := Below.refl w.heap.size w; refine enter Tryz.func142 rfl Tryz.ntmps142 rfl ?_; have S := Sep.nil w; have B := Below.refl w.heap.size w; have Hb := Nat.le_refl w.heap.size; refine w_h ?_; refine t_boxo S rfl rfl ?_ rfl rfl; intro g7 w1 x2 S; have B := bx Hb B x2; refine t_w S z_hop rfl ?_ rfl rfl; intro g8 w3 x4 S; have B := bx Hb B x4; refine t_k ?_; refine t_b S.tail.box ab_hop sb_hop rfl rfl ?_ rfl; refine t_w S z_hop rfl ?_ rfl rfl; intro g9 w5 x6 S; have B := bx Hb B x6; refine t_stn S sb_hop rfl rfl rfl rfl (by repeat first | exact oc0 | refine oc rfl ?_) ?_; intro w7 b8 S; have B := B.trans b8; refine t_k ?_; (iterate 3 refine t_m rfl ?_ rfl); refine t_b S.tail.tail.box ab_hop sb_hop rfl rfl ?_ rfl; refine t_x Tryz.call169 rfl (spec_HopMAC _ _ _ _ _) ?_ rfl rfl; intro w9 x10; have B := bx Hb B x10; have S := S.below x10; refine t_y fb_hop_4 rfl rfl ?_ rfl; refine t_st1 S sb_int rfl rfl rfl rfl rfl ?_; intro w11 b12 S; have B := B.trans b12; refine t_k ?_; refine t_b S.box ab_hop sb_hop rfl rfl ?_ rfl; have S := S.f1; refine t_stn S sb_hop rfl rfl rfl rfl (by repeat first | exact oc0 | refine oc rfl ?_) ?_; intro w13 b14 S; have B := B.trans b14; refine t_e ?_
 refine w_r ?_; refine x_retc rfl rfl S.box ab_hop sb_hop rfl ?_; exact ⟨rfl, ext_trans X0 B⟩
set_option maxHeartbeats 8000000 in
theorem spec_l9Grow {b n c : Nat} {w : World} {v va vl : Value} {A : List ASd} {L : List Lnk} {os : List Ow} (kd : Int) (T : TopK A L) (S : Sep b w (curO v n c 123 :: slO asnT 117 va A :: slO linkT 90 vl L :: os)) (K : CodeK b w v n) : Calls Tryz.prog 98 #[.pointer (some ⟨c, 0, none⟩), .agg #[va, vl], I kd] w fun e w' =>
  ∃ (vh : Value) (s : Seg), e = .returned (.agg #[I s.ts, I s.beta, vh]) ∧ SegK ⟨A, L⟩ s ∧ Sep b w' (slO hopT 87 vh s.hops :: curO v n c 123 :: slO asnT 117 va A :: slO linkT 90 vl L :: os) ∧ Below b w w' := by
 have hA1 := T.1.1; have hA8 := T.1.2.1; have hL := T.len; have hK := T.lnk
 have hst : sz_topo (⟨A, L⟩ : Topo) ≤ 500000 := by simp only [sz_topo]; omega
 have X0 := Below.refl w.heap.size w; refine enter Tryz.func98 rfl Tryz.ntmps98 rfl ?_; have B := Below.refl b w; have Hb := S.base; refine w_h ?_; refine t_boxo S rfl rfl ?_ rfl rfl; intro g4 w15 x16 S; have B := bx Hb B x16; refine t_w S z_seg rfl ?_ rfl rfl; intro g6 w17 x18 S; have B := bx Hb B x18; refine t_k ?_; refine t_lit (T := intT) (css := []) (l := []) int_flat S bs_int0 rfl rfl rfl rfl (Nat.zero_le _) litR_nil ?_ rfl rfl; intro u18 w19 x20 S; have B := bx Hb B x20; refine t_a rfl ?_ rfl; refine t_e ?_; (iterate 2 refine w_s ?_); refine w_g ?_; refine t_a rfl ?_ rfl; refine t_e ?_; refine w_block ?_
 refine w_loop (X := Nat × List Int × Value) (fun x wq => (fun k q vq => k ≤ A.length ∧ (∀ x : Int, x ∈ q → 0 ≤ x ∧ x < A.length) ∧ q.length ≤ k ∧ Below b w wq ∧ Sep b wq (slO intT 3 vq q :: bxO g6 67 #[I 0, I 0, .slice none 0 0] :: bxO g4 27 #[va, vl] :: curO v n c 123 :: slO asnT 117 va A :: slO linkT 90 vl L :: os)) x.1 x.2.1 x.2.2) (fun x => (fun k q vq => [(8, I ((k : Int))), (7, vq), (0, .pointer (some ⟨c, 0, none⟩)), (2, I kd), (4, .pointer (some ⟨g4, 0, none⟩)), (6, .pointer (some ⟨g6, 0, none⟩))]) x.1 x.2.1 x.2.2) (fun x => (fun k q vq => A.length - k) x.1 x.2.1 x.2.2) (0, [], _) ?_ ⟨rfl, rfl, rfl, rfl, rfl, rfl, trivial⟩ ?_
 ·exact ⟨by omega, by simp, by simp, B, S⟩
 rintro ⟨k, q, vq⟩ w21 hI; (try dsimp only at hI ⊢); obtain ⟨hk, hq, hql, B, S⟩ := hI; (iterate 2 refine w_s ?_); refine w_g ?_; refine t_m rfl ?_ rfl; refine t_y fb_topo_0 rfl rfl ?_ rfl; refine t_bx1 S.tail.tail.box ab_s_asn rfl rfl ?_ rfl; refine t_len e_asn (S.t4.sl) rfl rfl ?_ rfl; refine t_lss rfl rfl ?_ rfl; refine t_e ?_; refine w_if rfl ?_ ?_
 ·intro hlt; refine w_k ?_; refine x_s ?_; refine w_s ?_; refine w_block ?_; refine w_h ?_; refine t_y fb_topo_0 rfl rfl ?_ rfl; refine t_bx1 S.tail.tail.box ab_s_asn rfl rfl ?_ rfl; refine t_m rfl ?_ rfl; obtain ⟨e29, he29⟩ : ∃ e, (A)[k]? = some e := getx (by omega); refine t_idx e_asn (k := k) (S.t4.sl) he29 (Below.refl _ _) rfl rfl (by first | rfl | omega) ?_ rfl; intro p29 hp29; refine t_fld ln_asn_1 ‹_› fb_asn_1 rfl ?_ rfl; intro p30 hp30; refine t_ldb ‹_› ab_bool (Below.refl _ _) rfl ?_ rfl; refine t_e ?_; refine w_ifb rfl ?_ ?_
  ·intro hc; refine w_g ?_; (iterate 2 refine t_m rfl ?_ rfl); refine t_lit (T := intT) (l := [(k : Int)]) (css := ([(k : Int)]).map fun a => [I a]) int_flat S (fun w => bs_int1 _ w) rfl rfl rfl rfl (by simp [maxLen]) (litR_int _) ?_ rfl rfl; intro u34 w22 x23 S; have B := bx Hb B x23; have hR := S.sl; have S := S.f1; refine t_cat int_flat e_int S hR rfl rfl rfl (by first | omega | (simp [-List.length_flatMap]; omega)) (by (simp [maxLen, -List.length_flatMap]; try omega)) ?_ rfl; intro v35 w24 x25 S; have B := B.trans x25; clear hR; have S := S.f1.tail; refine t_a rfl ?_ rfl; refine t_d ?_; refine x_b ?_; refine x_s ?_; refine w_g ?_; refine t_m rfl ?_ rfl; refine t_add rfl rfl (by omega) ?_ rfl; refine t_a rfl ?_ rfl; refine t_d ?_; refine x_r (X := Nat × List Int × Value) (k + 1, q ++ [(k : Int)], v35) ?_ (by exact ⟨rfl, rfl, rfl, rfl, rfl, rfl, trivial⟩) (by (try dsimp only); omega); (try dsimp only); refine ⟨by omega, fun x hx => ?_, by rw [List.length_append, List.length_singleton]; omega, B, S⟩; rw [List.mem_append, List.mem_singleton] at hx
   rcases hx with hx | rfl
   ·exact hq x hx
   ·omega
  ·intro hc; refine w_k ?_; refine x_b ?_; refine x_s ?_; refine w_g ?_; refine t_m rfl ?_ rfl; refine t_add rfl rfl (by omega) ?_ rfl; refine t_a rfl ?_ rfl; refine t_d ?_; refine x_r (X := Nat × List Int × Value) (k + 1, q, vq) ?_ (by exact ⟨rfl, rfl, rfl, rfl, rfl, rfl, trivial⟩) (by (try dsimp only); omega); (try dsimp only); exact ⟨by omega, hq, by omega, B, S⟩
 ·intro hge; refine w_exit ?_; (iterate 2 refine x_then_exit ?_); refine x_block_exit ?_; refine x_s ?_; refine w_h ?_; refine t_m rfl ?_ rfl; have S := S.f3; refine t_f Tryz.call68 rfl (spec_l1Below 50 S (K.below B)) ?_ rfl; rintro e w26 ⟨y37, rfl, hf37, S, x27⟩; refine ⟨_, rfl, ?_⟩; have B := B.trans x27; refine t_m rfl ?_ rfl; refine t_f Tryz.call68 rfl (spec_l1Below 1000000 S (K.below B)) ?_ rfl; rintro e w28 ⟨y39, rfl, hf39, S, x29⟩; refine ⟨_, rfl, ?_⟩; have B := B.trans x29; refine t_g (fun w => b_seg2 _ _ w) rfl ?_ rfl; refine t_w S z_seg rfl ?_ rfl rfl; intro g9 w30 x31 S; have B := bx Hb B x31; refine t_stn S sb_seg rfl rfl rfl rfl (by simp [Value.oneCell']) ?_; intro w32 b33 S; have B := B.trans b33; refine t_e ?_; (iterate 2 refine w_s ?_); refine w_g ?_; refine t_m rfl ?_ rfl; refine t_len e_int (S.tail.tail.sl) rfl rfl ?_ rfl; refine t_eql rfl rfl ?_ rfl; refine t_e ?_; refine w_if rfl ?_ ?_
  ·intro h0; refine w_h ?_; refine t_b S.box ab_seg sb_seg rfl rfl ?_ rfl; have S := S.f3; refine t_stn S sb_seg rfl rfl rfl rfl (by simp [Value.oneCell']) ?_; intro w34 b35 S; have B := B.trans b35; refine t_e ?_; refine w_r ?_; refine x_t ?_; refine x_retc rfl rfl S.box ab_seg sb_seg rfl ?_; have S := S.tail.tail.f1.tail.f1.tail.f2.f2.f2; have S := Sep.addNil (T := hopT) (e := 87) S; exact ⟨_, ⟨y37, y39, []⟩, rfl, SealK.nil.seg (by omega) (by omega) (by omega) (by omega) (by simp), S, B⟩
  ·intro h0; refine w_k ?_; refine x_s ?_; refine w_h ?_; (iterate 3 refine t_m rfl ?_ rfl); refine t_len e_int (S.tail.tail.sl) rfl rfl ?_ rfl; have S := S.f1; refine t_f Tryz.call68 rfl (spec_l1Below (q.length : Int) S (K.below B)) ?_ rfl; rintro e w36 ⟨y49, rfl, hf49, S, x37⟩; refine ⟨_, rfl, ?_⟩; have B := B.trans x37; obtain ⟨e50, he50⟩ : ∃ e, (q)[y49.toNat]? = some e := getx (by omega); refine t_idx e_int (k := y49.toNat) (S.tail.tail.sl) he50 (Below.refl _ _) rfl rfl (by first | rfl | omega) ?_ rfl; intro p50 hp50; refine t_ldi ‹_› ab_int (Below.refl _ _) rfl ?_ rfl; refine t_a rfl ?_ rfl; refine t_k ?_; refine t_a rfl ?_ rfl; refine t_e ?_; (iterate 2 refine w_s ?_); refine w_g ?_; refine t_a rfl ?_ rfl; refine t_e ?_; refine w_block ?_; have hr0 := hq e50 (List.mem_of_getElem? he50); clear hge hk h0; have S := Sep.addNil (T := hopT) (e := 87) S; have S := S.f7.f7.f3.f7.f7.f7.f7.f7
   refine w_loop (X := Nat × Int × Int × List Hop × Value) (fun x wq => (fun k r i hs vh => k ≤ 5 ∧ (0 ≤ r ∧ r < (A.length : Int)) ∧ (0 ≤ i ∧ i ≤ 6) ∧ List.length hs ≤ k ∧ SealK ⟨A, L⟩ y37 y39 hs ∧ Below b w wq ∧ Sep b wq (slO hopT 87 vh hs :: bxO g9 67 #[I y37, I y39, vh] :: slO intT 3 vq q :: bxO g6 67 #[I 0, I 0, .slice none 0 0] :: bxO g4 27 #[va, vl] :: curO v n c 123 :: slO asnT 117 va A :: slO linkT 90 vl L :: os)) x.1 x.2.1 x.2.2.1 x.2.2.2.1 x.2.2.2.2) (fun x => (fun k r i hs vh => [(12, I ((k : Int))), (10, I r), (11, I i), (0, .pointer (some ⟨c, 0, none⟩)), (2, I kd), (4, .pointer (some ⟨g4, 0, none⟩)), (6, .pointer (some ⟨g6, 0, none⟩)), (9, .pointer (some ⟨g9, 0, none⟩))]) x.1 x.2.1 x.2.2.1 x.2.2.2.1 x.2.2.2.2) (fun x => (fun k r i hs vh => 5 - k) x.1 x.2.1 x.2.2.1 x.2.2.2.1 x.2.2.2.2) (0, e50, 0, [], .slice none 0 0) ?_ ⟨rfl, rfl, rfl, rfl, rfl, rfl, rfl, rfl, trivial⟩ ?_
   ·exact ⟨by omega, hr0, by dsimp only; omega, by simp, .nil, B, S⟩
   rintro ⟨k, r, i, hs, vh⟩ w38 hI; (try dsimp only at hI ⊢); obtain ⟨hk, hr, hi, hhl, hS, B, S⟩ := hI; (iterate 2 refine w_s ?_); refine w_g ?_; refine t_m rfl ?_ rfl; refine t_lss rfl rfl ?_ rfl; refine t_e ?_; refine w_if rfl ?_ ?_
   ·intro hlt; have hsl : (⟨y37, y39, hs⟩ : Seg).hops.length ≤ 5 := (show hs.length ≤ 5 by omega); refine w_k ?_; refine x_s ?_; refine w_s ?_; refine w_block ?_; refine w_h ?_; refine t_a rfl ?_ rfl; refine t_k ?_; refine t_b S.t4.box ab_topo sb_topo rfl rfl ?_ rfl; (iterate 2 refine t_m rfl ?_ rfl); refine t_c Tryz.call139 rfl (spec_InterfacesOfKind _ _ _ _ _ (topo_mkv (S.t4.tail.tail.sl) (S.t4.tail.tail.tail.sl)) ‹_›) ?_ rfl rfl; rintro e w39 ⟨v59, fpv59, rfl, hOv59, x40⟩; refine ⟨_, rfl, x40, ?_⟩; have S := S.add (o := slO _ _ _ _) x40 hOv59; have B := bx Hb B x40; refine t_a rfl ?_ rfl; refine t_e ?_; refine w_s ?_; refine w_cut (X := Int) (fun o wq => (o = 0 ∨ o ∈ ifsK ⟨A, L⟩ r kd) ∧ Below b w wq ∧ Sep b wq (slO intT 3 v59 (ifsK ⟨A, L⟩ r kd) :: slO hopT 87 vh hs :: bxO g9 67 #[I y37, I y39, vh] :: slO intT 3 vq q :: bxO g6 67 #[I 0, I 0, .slice none 0 0] :: bxO g4 27 #[va, vl] :: curO v n c 123 :: slO asnT 117 va A :: slO linkT 90 vl L :: os)) (fun o => [(13, I o), (12, I ((k : Int))), (10, I r), (11, I i), (0, .pointer (some ⟨c, 0, none⟩)), (2, I kd), (4, .pointer (some ⟨g4, 0, none⟩)), (6, .pointer (some ⟨g6, 0, none⟩)), (9, .pointer (some ⟨g9, 0, none⟩))]) ?_ ?_
    ·refine w_s ?_; refine w_g ?_; refine t_m rfl ?_ rfl; refine t_len e_int (S.sl) rfl rfl ?_ rfl; refine t_gtr rfl rfl ?_ rfl; refine t_m rfl ?_ rfl; refine t_partp (t := 63) rfl ?_ ?_
     ·intro hp1; refine t_on rfl rfl ?_; refine t_m rfl ?_ rfl; refine t_on rfl rfl ?_; have S := S.f6; refine t_f Tryz.call70 rfl (spec_l1Once 5 S (K.below B)) ?_ rfl; rintro e w41 ⟨y65, rfl, hf65, S, x42⟩; refine ⟨_, rfl, ?_⟩; have B := B.trans x42; refine t_on rfl rfl ?_; refine t_not rfl ?_ rfl; refine t_q rfl rfl ?_ rfl; refine t_e ?_; refine w_if rfl ?_ ?_
      ·intro ho; refine w_g ?_; (iterate 3 refine t_m rfl ?_ rfl); refine t_len e_int (S.tail.sl) rfl rfl ?_ rfl; refine t_f Tryz.call68 rfl (spec_l1Below ((((ifsK (⟨A, L⟩ : Topo) r kd)).length : Int)) S (K.below B)) ?_ rfl; rintro e w43 ⟨y72, rfl, hf72, S, x44⟩; refine ⟨_, rfl, ?_⟩; have B := B.trans x44; obtain ⟨e73, he73⟩ : ∃ e, ((ifsK (⟨A, L⟩ : Topo) r kd))[y72.toNat]? = some e := getx (by omega); refine t_idx e_int (k := y72.toNat) (S.tail.sl) he73 (Below.refl _ _) rfl rfl (by first | rfl | omega) ?_ rfl; intro p73 hp73; refine t_ldi ‹_› ab_int (Below.refl _ _) rfl ?_ rfl; refine t_a rfl ?_ rfl; refine t_d ?_; have S := S.f8.f8.f2.f8.f8.f8.f8.f8.f8; refine x_cut (X := Int) (e73) ?_ ?_; rotate_left
       ·exact ⟨rfl, rfl, rfl, rfl, rfl, rfl, rfl, rfl, rfl, trivial⟩
       (try dsimp only); exact ⟨.inr (List.mem_of_getElem? he73), B, S⟩
      ·intro ho; refine w_k ?_; have S := S.f8.f8.f2.f8.f8.f8.f8.f8.f8; refine x_cut (X := Int) (0) ?_ ?_; rotate_left
       ·exact ⟨rfl, rfl, rfl, rfl, rfl, rfl, rfl, rfl, rfl, trivial⟩
       (try dsimp only); exact ⟨.inl rfl, B, S⟩
     ·intro hp1; (iterate 3 refine t_off rfl rfl rfl ?_ rfl); refine t_p rfl rfl ?_ rfl; refine t_e ?_; refine w_no rfl ?_; refine w_k ?_; refine x_cut (X := Int) (0) ?_ ?_; rotate_left
      ·exact ⟨rfl, rfl, rfl, rfl, rfl, rfl, rfl, rfl, rfl, trivial⟩
      (try dsimp only); exact ⟨.inl rfl, B, S⟩
    rintro o w45 hI; (try dsimp only at hI ⊢); obtain ⟨ho, B, S⟩ := hI
    have hor : 0 ≤ o ∧ o ≤ 6 := by
     rcases ho with rfl | ho
     ·omega
     ·have := (ifsK_in hK ho).2; omega
    have hrem : o ≠ 0 → (0 ≤ (remote ⟨A, L⟩ r o).1 ∧ (remote ⟨A, L⟩ r o).1 < A.length) ∧ 1 ≤ (remote ⟨A, L⟩ r o).2 ∧ (remote ⟨A, L⟩ r o).2 ≤ 6 := fun hz => by
     rcases ho with rfl | ho
     ·omega
     ·exact remote_in hK (ifsK_in hK ho).1
    refine w_h ?_; refine t_b S.t4.tail.box ab_topo sb_topo rfl rfl ?_ rfl; (iterate 2 refine t_m rfl ?_ rfl); refine t_x Tryz.call140 rfl (spec_RemoteEnd (⟨A, L⟩ : Topo) _ _ _ _ (topo_mkv (S.t4.tail.tail.tail.sl) (S.t4.t4.sl)) (by omega)) ?_ rfl rfl; intro w46 x47; have B := bx Hb B x47; have S := S.below x47; refine t_m rfl ?_ rfl; (iterate 2 refine t_extract rfl rfl ?_ rfl); (iterate 2 refine t_a rfl ?_ rfl); refine t_e ?_; refine w_s ?_; refine w_cut (X := Int) (fun z wq => (z = 0 ∨ z = o) ∧ i ≠ z ∧ Below b w wq ∧ Sep b wq (slO hopT 87 vh hs :: bxO g9 67 #[I y37, I y39, vh] :: slO intT 3 vq q :: bxO g6 67 #[I 0, I 0, .slice none 0 0] :: bxO g4 27 #[va, vl] :: curO v n c 123 :: slO asnT 117 va A :: slO linkT 90 vl L :: os)) (fun z => [(13, I z), (12, I ((k : Int))), (10, I r), (11, I i), (0, .pointer (some ⟨c, 0, none⟩)), (2, I kd), (4, .pointer (some ⟨g4, 0, none⟩)), (6, .pointer (some ⟨g6, 0, none⟩)), (9, .pointer (some ⟨g9, 0, none⟩)), (15, I ((remote (⟨A, L⟩ : Topo) r o).1)), (16, I ((remote (⟨A, L⟩ : Topo) r o).2))]) ?_ ?_
    ·refine w_s ?_; refine w_g ?_; refine t_m rfl ?_ rfl; refine t_neq rfl rfl ?_ rfl; refine t_m rfl ?_ rfl; refine t_partp (t := 84) rfl ?_ ?_
     ·intro hc1; refine t_on rfl rfl ?_; refine t_b S.tail.tail.box ab_seg sb_seg rfl rfl ?_ rfl; refine t_on rfl rfl ?_; refine t_c Tryz.call141 rfl (spec_SegmentASes (⟨y37, y39, hs⟩ : Seg) _ _ (seg_mkv (x := (⟨y37, y39, hs⟩ : Seg)) (S.tail.sl)) (by (try dsimp only); omega)) ?_ rfl rfl; rintro e w48 ⟨v86, fpv86, rfl, hOv86, x49⟩; refine ⟨_, rfl, x49, ?_⟩; have S := S.add (o := slO _ _ _ _) x49 hOv86; have B := bx Hb B x49; refine t_on rfl rfl ?_; refine t_m rfl ?_ rfl; refine t_on rfl rfl ?_; refine t_calls Tryz.call82 rfl (spec_l9Has _ _ _ _ (S.sl) (by (try rw [List.length_take]); (try rw [List.length_map]); omega)) ?_ rfl rfl; refine t_on rfl rfl ?_; refine t_m rfl ?_ rfl; refine t_part (t := 89) rfl ?_ ?_
      ·intro hc2; (iterate 3 refine t_off rfl rfl rfl ?_ rfl); refine t_on rfl rfl ?_; (iterate 2 refine t_q rfl rfl ?_ rfl); refine t_m rfl ?_ rfl; (iterate 3 refine t_off rfl rfl rfl ?_ rfl); refine t_q rfl rfl ?_ rfl; refine t_e ?_; refine w_yes rfl ?_; (iterate 2 refine w_s ?_); refine w_g ?_; refine t_m rfl ?_ rfl; refine t_eql rfl rfl ?_ rfl; refine t_e ?_; refine w_if rfl ?_ ?_
       ·intro hc3; refine w_h ?_; refine t_b S.tail.tail.tail.box ab_seg sb_seg rfl rfl ?_ rfl; have S := S.f5; refine t_stn S sb_seg rfl rfl rfl rfl (by repeat first | exact oc0 | refine oc rfl ?_ | refine oc (SlR.cells (S.tail.tail.tail.sl)).2 ?_) ?_; intro w50 b51 S; have B := B.trans b51; refine t_e ?_; refine w_r ?_; (iterate 2 refine x_t ?_); refine x_block_ret ?_; (iterate 2 refine x_t ?_); refine x_block_ret ?_; refine x_t ?_; refine x_retc rfl rfl S.box ab_seg sb_seg rfl ?_; have S := S.tail.tail.tail.f1.tail.f1.tail.f1.tail.f3.f3.f3.f3; exact ⟨_, ⟨y37, y39, hs⟩, rfl, hS.seg (by omega) (by omega) (by omega) (by omega) (by omega), S, B⟩
       ·intro hc4; refine w_k ?_; refine x_s ?_; refine w_g ?_; refine t_a rfl ?_ rfl; refine t_d ?_; have S := S.tail.tail; refine x_cut (X := Int) (0) ?_ ?_; rotate_left
        ·exact ⟨rfl, rfl, rfl, rfl, rfl, rfl, rfl, rfl, rfl, rfl, rfl, trivial⟩
        (try dsimp only); exact ⟨by omega, by omega, B, S⟩
      ·intro hc5; refine t_on rfl rfl ?_; refine t_m rfl ?_ rfl; refine t_on rfl rfl ?_; refine t_m rfl ?_ rfl; refine t_on rfl rfl ?_; refine t_eql rfl rfl ?_ rfl; refine t_on rfl rfl ?_; refine t_p rfl rfl ?_ rfl; refine t_q rfl rfl ?_ rfl; refine t_m rfl ?_ rfl; refine t_partp (t := 95) rfl ?_ ?_
       ·intro hc6; (iterate 3 refine t_off rfl rfl rfl ?_ rfl); refine t_q rfl rfl ?_ rfl; refine t_e ?_; refine w_yes rfl ?_; (iterate 2 refine w_s ?_); refine w_g ?_; refine t_m rfl ?_ rfl; refine t_eql rfl rfl ?_ rfl; refine t_e ?_; refine w_if rfl ?_ ?_
        ·intro hc7; refine w_h ?_; refine t_b S.tail.tail.tail.box ab_seg sb_seg rfl rfl ?_ rfl; have S := S.f5; refine t_stn S sb_seg rfl rfl rfl rfl (by repeat first | exact oc0 | refine oc rfl ?_ | refine oc (SlR.cells (S.tail.tail.tail.sl)).2 ?_) ?_; intro w52 b53 S; have B := B.trans b53; refine t_e ?_; refine w_r ?_; (iterate 2 refine x_t ?_); refine x_block_ret ?_; (iterate 2 refine x_t ?_); refine x_block_ret ?_; refine x_t ?_; refine x_retc rfl rfl S.box ab_seg sb_seg rfl ?_; have S := S.tail.tail.tail.f1.tail.f1.tail.f1.tail.f3.f3.f3.f3; exact ⟨_, ⟨y37, y39, hs⟩, rfl, hS.seg (by omega) (by omega) (by omega) (by omega) (by omega), S, B⟩
        ·intro hc8; refine w_k ?_; refine x_s ?_; refine w_g ?_; refine t_a rfl ?_ rfl; refine t_d ?_; have S := S.tail.tail; refine x_cut (X := Int) (0) ?_ ?_; rotate_left
         ·exact ⟨rfl, rfl, rfl, rfl, rfl, rfl, rfl, rfl, rfl, rfl, rfl, trivial⟩
         (try dsimp only); exact ⟨by omega, by omega, B, S⟩
       ·intro hc9; refine t_on rfl rfl ?_; refine t_m rfl ?_ rfl; refine t_on rfl rfl ?_; refine t_m rfl ?_ rfl; refine t_on rfl rfl ?_; refine t_eql rfl rfl ?_ rfl; refine t_p rfl rfl ?_ rfl; refine t_e ?_; refine w_if rfl ?_ ?_
        ·intro hc10; (iterate 2 refine w_s ?_); refine w_g ?_; refine t_m rfl ?_ rfl; refine t_eql rfl rfl ?_ rfl; refine t_e ?_; refine w_if rfl ?_ ?_
         ·intro hc11; refine w_h ?_; refine t_b S.tail.tail.tail.box ab_seg sb_seg rfl rfl ?_ rfl; have S := S.f5; refine t_stn S sb_seg rfl rfl rfl rfl (by repeat first | exact oc0 | refine oc rfl ?_ | refine oc (SlR.cells (S.tail.tail.tail.sl)).2 ?_) ?_; intro w54 b55 S; have B := B.trans b55; refine t_e ?_; refine w_r ?_; (iterate 2 refine x_t ?_); refine x_block_ret ?_; (iterate 2 refine x_t ?_); refine x_block_ret ?_; refine x_t ?_; refine x_retc rfl rfl S.box ab_seg sb_seg rfl ?_; have S := S.tail.tail.tail.f1.tail.f1.tail.f1.tail.f3.f3.f3.f3; exact ⟨_, ⟨y37, y39, hs⟩, rfl, hS.seg (by omega) (by omega) (by omega) (by omega) (by omega), S, B⟩
         ·intro hc12; refine w_k ?_; refine x_s ?_; refine w_g ?_; refine t_a rfl ?_ rfl; refine t_d ?_; have S := S.tail.tail; refine x_cut (X := Int) (0) ?_ ?_; rotate_left
          ·exact ⟨rfl, rfl, rfl, rfl, rfl, rfl, rfl, rfl, rfl, rfl, rfl, trivial⟩
          (try dsimp only); exact ⟨by omega, by omega, B, S⟩
        ·intro hc13; refine w_k ?_; have S := S.tail.tail; refine x_cut (X := Int) (o) ?_ ?_; rotate_left
         ·exact ⟨rfl, rfl, rfl, rfl, rfl, rfl, rfl, rfl, rfl, rfl, rfl, trivial⟩
         (try dsimp only); exact ⟨by omega, by omega, B, S⟩
     ·intro hc14; (iterate 5 refine t_off rfl rfl rfl ?_ rfl); (iterate 3 refine t_offu rfl rfl ?_ rfl); refine t_off rfl rfl rfl ?_ rfl; refine t_p rfl rfl ?_ rfl; refine t_m rfl ?_ rfl; refine t_on rfl rfl ?_; refine t_m rfl ?_ rfl; refine t_on rfl rfl ?_; refine t_m rfl ?_ rfl; refine t_on rfl rfl ?_; refine t_eql rfl rfl ?_ rfl; refine t_p rfl rfl ?_ rfl; refine t_e ?_; refine w_if rfl ?_ ?_
      ·intro hc15; (iterate 2 refine w_s ?_); refine w_g ?_; refine t_m rfl ?_ rfl; refine t_eql rfl rfl ?_ rfl; refine t_e ?_; refine w_if rfl ?_ ?_
       ·intro hc16; refine w_h ?_; refine t_b S.tail.tail.box ab_seg sb_seg rfl rfl ?_ rfl; have S := S.f4; refine t_stn S sb_seg rfl rfl rfl rfl (by repeat first | exact oc0 | refine oc rfl ?_ | refine oc (SlR.cells (S.tail.tail.sl)).2 ?_) ?_; intro w56 b57 S; have B := B.trans b57; refine t_e ?_; refine w_r ?_; (iterate 2 refine x_t ?_); refine x_block_ret ?_; (iterate 2 refine x_t ?_); refine x_block_ret ?_; refine x_t ?_; refine x_retc rfl rfl S.box ab_seg sb_seg rfl ?_; have S := S.tail.tail.f1.tail.f1.tail.f1.tail.f3.f3.f3.f3; exact ⟨_, ⟨y37, y39, hs⟩, rfl, hS.seg (by omega) (by omega) (by omega) (by omega) (by omega), S, B⟩
       ·intro hc17; refine w_k ?_; refine x_s ?_; refine w_g ?_; refine t_a rfl ?_ rfl; refine t_d ?_; have S := S.tail; refine x_cut (X := Int) (0) ?_ ?_; rotate_left
        ·exact ⟨rfl, rfl, rfl, rfl, rfl, rfl, rfl, rfl, rfl, rfl, rfl, trivial⟩
        (try dsimp only); exact ⟨by omega, by omega, B, S⟩
      ·intro hc18; refine w_k ?_; have S := S.tail; refine x_cut (X := Int) (o) ?_ ?_; rotate_left
       ·exact ⟨rfl, rfl, rfl, rfl, rfl, rfl, rfl, rfl, rfl, rfl, rfl, trivial⟩
       (try dsimp only); exact ⟨by omega, by omega, B, S⟩
    rintro z w58 hI; (try dsimp only at hI ⊢); obtain ⟨hz, hiz, B, S⟩ := hI
    have hzr : 0 ≤ z ∧ z ≤ 6 := by omega
    refine w_s ?_; refine w_cut (X := Int × Nat) (fun x wq => (fun x g => (0 ≤ x ∧ x ≤ 1000) ∧ Below b w wq ∧ Sep b wq (bxO g 87 #[I r, I i, I z, I x, I 0] :: slO hopT 87 vh hs :: bxO g9 67 #[I y37, I y39, vh] :: slO intT 3 vq q :: bxO g6 67 #[I 0, I 0, .slice none 0 0] :: bxO g4 27 #[va, vl] :: curO v n c 123 :: slO asnT 117 va A :: slO linkT 90 vl L :: os)) x.1 x.2) (fun x => (fun x g => [(17, .pointer (some ⟨g, 0, none⟩)), (13, I z), (12, I ((k : Int))), (10, I r), (11, I i), (0, .pointer (some ⟨c, 0, none⟩)), (2, I kd), (4, .pointer (some ⟨g4, 0, none⟩)), (6, .pointer (some ⟨g6, 0, none⟩)), (9, .pointer (some ⟨g9, 0, none⟩)), (15, I ((remote (⟨A, L⟩ : Topo) r o).1)), (16, I ((remote (⟨A, L⟩ : Topo) r o).2))]) x.1 x.2) ?_ ?_
    ·refine w_drawP [0, 1, 2, 3, 6] (.alt (.st .fin 4 (.alt (.st .fin 5 (.alt (.st .fin 7 (.alt (.st .fin 8 (.alt (.st .fin 9 (.st .fin 10 (.st .fin 11 .done))) (.st .fin 10 (.st .fin 9 (.st .fin 11 .done))))) (.st .fin 10 (.st .fin 8 (.st .fin 9 (.st .fin 11 .done)))))) (.st .fin 10 (.st .fin 7 (.st .fin 8 (.st .fin 9 (.st .fin 11 .done))))))) (.alt (.st .fin 7 (.alt (.st .fin 5 (.alt (.st .fin 8 (.alt (.st .fin 9 (.st .fin 10 (.st .fin 11 .done))) (.st .fin 10 (.st .fin 9 (.st .fin 11 .done))))) (.st .fin 10 (.st .fin 8 (.st .fin 9 (.st .fin 11 .done)))))) (.st .fin 10 (.st .fin 5 (.st .fin 8 (.st .fin 9 (.st .fin 11 .done))))))) (.st .fin 10 (.alt (.st .fin 5 (.st .fin 7 (.st .fin 8 (.st .fin 9 (.st .fin 11 .done))))) (.st .fin 7 (.st .fin 5 (.st .fin 8 (.st .fin 9 (.st .fin 11 .done)))))))))) (.alt (.st .fin 7 (.alt (.st .fin 4 (.alt (.st .fin 5 (.alt (.st .fin 8 (.alt (.st .fin 9 (.st .fin 10 (.st .fin 11 .done))) (.st .fin 10 (.st .fin 9 (.st .fin 11 .done))))) (.st .fin 10 (.st .fin 8 (.st .fin 9 (.st .fin 11 .done)))))) (.st .fin 10 (.st .fin 5 (.st .fin 8 (.st .fin 9 (.st .fin 11 .done))))))) (.st .fin 10 (.st .fin 4 (.st .fin 5 (.st .fin 8 (.st .fin 9 (.st .fin 11 .done)))))))) (.st .fin 10 (.alt (.st .fin 4 (.alt (.st .fin 5 (.st .fin 7 (.st .fin 8 (.st .fin 9 (.st .fin 11 .done))))) (.st .fin 7 (.st .fin 5 (.st .fin 8 (.st .fin 9 (.st .fin 11 .done))))))) (.st .fin 7 (.st .fin 4 (.st .fin 5 (.st .fin 8 (.st .fin 9 (.st .fin 11 .done)))))))))) mixed (by kernel_rfl) ?_
     intro w59 x60; have B := bx Hb B x60; have S := S.below x60; (iterate 3 refine p_move rfl ?_ rfl); refine p_fldx fb_seg_0 rfl rfl ?_ rfl; refine p_move rfl ?_ rfl; refine p_done ?_; refine t_alt ?_ (t_alt ?_ ?_)
     ·refine t_bx1 S.tail.box ab_int rfl rfl ?_ rfl; refine t_alt ?_ (t_alt ?_ ?_)
      ·refine t_add rfl rfl (by omega) ?_ rfl; refine t_alt ?_ ?_
       ·have S := S.f5; refine t_f Tryz.call68 rfl (spec_l1Below 50 S (K.below B)) ?_ rfl; rintro e w61 ⟨y110, rfl, hf110, S, x62⟩; refine ⟨_, rfl, ?_⟩; have B := B.trans x62; refine t_alt ?_ ?_
        ·refine t_add rfl rfl (by omega) ?_ rfl; refine t_alt ?_ ?_
         ·refine t_g (fun w => b_hop4 _ _ _ _ w) rfl ?_ rfl; refine t_w S z_hop rfl ?_ rfl rfl; intro g17 w63 x64 S; have B := bx Hb B x64; refine t_stn S sb_hop rfl rfl rfl rfl (by repeat first | exact oc0 | refine oc rfl ?_) ?_; intro w65 b66 S; have B := B.trans b66; refine t_d' ?_; have S := S.f8.f8.f3.f8.f8.f8.f8.f8.f8; refine x_cut (X := Int × Nat) ((y37 + 50) + y110, g17) ?_ ?_; rotate_left
          ·exact ⟨rfl, rfl, rfl, rfl, rfl, rfl, rfl, rfl, rfl, rfl, rfl, rfl, trivial⟩
          (try dsimp only); exact ⟨by omega, B, S⟩
         ·refine t_w S z_hop rfl ?_ rfl rfl; intro g17 w67 x68 S; have B := bx Hb B x68; refine t_g (fun w => b_hop4 _ _ _ _ w) rfl ?_ rfl; refine t_stn S sb_hop rfl rfl rfl rfl (by repeat first | exact oc0 | refine oc rfl ?_) ?_; intro w69 b70 S; have B := B.trans b70; refine t_d' ?_; have S := S.f8.f8.f3.f8.f8.f8.f8.f8.f8; refine x_cut (X := Int × Nat) ((y37 + 50) + y110, g17) ?_ ?_; rotate_left
          ·exact ⟨rfl, rfl, rfl, rfl, rfl, rfl, rfl, rfl, rfl, rfl, rfl, rfl, trivial⟩
          (try dsimp only); exact ⟨by omega, B, S⟩
        ·refine t_w S z_hop rfl ?_ rfl rfl; intro g17 w71 x72 S; have B := bx Hb B x72; refine t_add rfl rfl (by omega) ?_ rfl; refine t_g (fun w => b_hop4 _ _ _ _ w) rfl ?_ rfl; refine t_stn S sb_hop rfl rfl rfl rfl (by repeat first | exact oc0 | refine oc rfl ?_) ?_; intro w73 b74 S; have B := B.trans b74; refine t_d' ?_; have S := S.f8.f8.f3.f8.f8.f8.f8.f8.f8; refine x_cut (X := Int × Nat) ((y37 + 50) + y110, g17) ?_ ?_; rotate_left
         ·exact ⟨rfl, rfl, rfl, rfl, rfl, rfl, rfl, rfl, rfl, rfl, rfl, rfl, trivial⟩
         (try dsimp only); exact ⟨by omega, B, S⟩
       ·refine t_w S z_hop rfl ?_ rfl rfl; intro g17 w75 x76 S; have B := bx Hb B x76; have S := S.f6; refine t_f Tryz.call68 rfl (spec_l1Below 50 S (K.below B)) ?_ rfl; rintro e w77 ⟨y110, rfl, hf110, S, x78⟩; refine ⟨_, rfl, ?_⟩; have B := B.trans x78; refine t_add rfl rfl (by omega) ?_ rfl; refine t_g (fun w => b_hop4 _ _ _ _ w) rfl ?_ rfl; have S := S.f1; refine t_stn S sb_hop rfl rfl rfl rfl (by repeat first | exact oc0 | refine oc rfl ?_) ?_; intro w79 b80 S; have B := B.trans b80; refine t_d' ?_; have S := S.f8.f8.f3.f8.f8.f8.f8.f8.f8; refine x_cut (X := Int × Nat) ((y37 + 50) + y110, g17) ?_ ?_; rotate_left
        ·exact ⟨rfl, rfl, rfl, rfl, rfl, rfl, rfl, rfl, rfl, rfl, rfl, rfl, trivial⟩
        (try dsimp only); exact ⟨by omega, B, S⟩
      ·have S := S.f5; refine t_f Tryz.call68 rfl (spec_l1Below 50 S (K.below B)) ?_ rfl; rintro e w81 ⟨y110, rfl, hf110, S, x82⟩; refine ⟨_, rfl, ?_⟩; have B := B.trans x82; refine t_alt ?_ ?_
       ·refine t_add rfl rfl (by omega) ?_ rfl; refine t_alt ?_ ?_
        ·refine t_add rfl rfl (by omega) ?_ rfl; refine t_alt ?_ ?_
         ·refine t_g (fun w => b_hop4 _ _ _ _ w) rfl ?_ rfl; refine t_w S z_hop rfl ?_ rfl rfl; intro g17 w83 x84 S; have B := bx Hb B x84; refine t_stn S sb_hop rfl rfl rfl rfl (by repeat first | exact oc0 | refine oc rfl ?_) ?_; intro w85 b86 S; have B := B.trans b86; refine t_d' ?_; have S := S.f8.f8.f3.f8.f8.f8.f8.f8.f8; refine x_cut (X := Int × Nat) ((y37 + 50) + y110, g17) ?_ ?_; rotate_left
          ·exact ⟨rfl, rfl, rfl, rfl, rfl, rfl, rfl, rfl, rfl, rfl, rfl, rfl, trivial⟩
          (try dsimp only); exact ⟨by omega, B, S⟩
         ·refine t_w S z_hop rfl ?_ rfl rfl; intro g17 w87 x88 S; have B := bx Hb B x88; refine t_g (fun w => b_hop4 _ _ _ _ w) rfl ?_ rfl; refine t_stn S sb_hop rfl rfl rfl rfl (by repeat first | exact oc0 | refine oc rfl ?_) ?_; intro w89 b90 S; have B := B.trans b90; refine t_d' ?_; have S := S.f8.f8.f3.f8.f8.f8.f8.f8.f8; refine x_cut (X := Int × Nat) ((y37 + 50) + y110, g17) ?_ ?_; rotate_left
          ·exact ⟨rfl, rfl, rfl, rfl, rfl, rfl, rfl, rfl, rfl, rfl, rfl, rfl, trivial⟩
          (try dsimp only); exact ⟨by omega, B, S⟩
        ·refine t_w S z_hop rfl ?_ rfl rfl; intro g17 w91 x92 S; have B := bx Hb B x92; refine t_add rfl rfl (by omega) ?_ rfl; refine t_g (fun w => b_hop4 _ _ _ _ w) rfl ?_ rfl; refine t_stn S sb_hop rfl rfl rfl rfl (by repeat first | exact oc0 | refine oc rfl ?_) ?_; intro w93 b94 S; have B := B.trans b94; refine t_d' ?_; have S := S.f8.f8.f3.f8.f8.f8.f8.f8.f8; refine x_cut (X := Int × Nat) ((y37 + 50) + y110, g17) ?_ ?_; rotate_left
         ·exact ⟨rfl, rfl, rfl, rfl, rfl, rfl, rfl, rfl, rfl, rfl, rfl, rfl, trivial⟩
         (try dsimp only); exact ⟨by omega, B, S⟩
       ·refine t_w S z_hop rfl ?_ rfl rfl; intro g17 w95 x96 S; have B := bx Hb B x96; refine t_add rfl rfl (by omega) ?_ rfl; refine t_add rfl rfl (by omega) ?_ rfl; refine t_g (fun w => b_hop4 _ _ _ _ w) rfl ?_ rfl; refine t_stn S sb_hop rfl rfl rfl rfl (by repeat first | exact oc0 | refine oc rfl ?_) ?_; intro w97 b98 S; have B := B.trans b98; refine t_d' ?_; have S := S.f8.f8.f3.f8.f8.f8.f8.f8.f8; refine x_cut (X := Int × Nat) ((y37 + 50) + y110, g17) ?_ ?_; rotate_left
        ·exact ⟨rfl, rfl, rfl, rfl, rfl, rfl, rfl, rfl, rfl, rfl, rfl, rfl, trivial⟩
        (try dsimp only); exact ⟨by omega, B, S⟩
      ·refine t_w S z_hop rfl ?_ rfl rfl; intro g17 w99 x100 S; have B := bx Hb B x100; refine t_alt ?_ ?_
       ·refine t_add rfl rfl (by omega) ?_ rfl; have S := S.f6; refine t_f Tryz.call68 rfl (spec_l1Below 50 S (K.below B)) ?_ rfl; rintro e w101 ⟨y110, rfl, hf110, S, x102⟩; refine ⟨_, rfl, ?_⟩; have B := B.trans x102; refine t_add rfl rfl (by omega) ?_ rfl; refine t_g (fun w => b_hop4 _ _ _ _ w) rfl ?_ rfl; have S := S.f1; refine t_stn S sb_hop rfl rfl rfl rfl (by repeat first | exact oc0 | refine oc rfl ?_) ?_; intro w103 b104 S; have B := B.trans b104; refine t_d' ?_; have S := S.f8.f8.f3.f8.f8.f8.f8.f8.f8; refine x_cut (X := Int × Nat) ((y37 + 50) + y110, g17) ?_ ?_; rotate_left
        ·exact ⟨rfl, rfl, rfl, rfl, rfl, rfl, rfl, rfl, rfl, rfl, rfl, rfl, trivial⟩
        (try dsimp only); exact ⟨by omega, B, S⟩
       ·have S := S.f6; refine t_f Tryz.call68 rfl (spec_l1Below 50 S (K.below B)) ?_ rfl; rintro e w105 ⟨y110, rfl, hf110, S, x106⟩; refine ⟨_, rfl, ?_⟩; have B := B.trans x106; refine t_add rfl rfl (by omega) ?_ rfl; refine t_add rfl rfl (by omega) ?_ rfl; refine t_g (fun w => b_hop4 _ _ _ _ w) rfl ?_ rfl; have S := S.f1; refine t_stn S sb_hop rfl rfl rfl rfl (by repeat first | exact oc0 | refine oc rfl ?_) ?_; intro w107 b108 S; have B := B.trans b108; refine t_d' ?_; have S := S.f8.f8.f3.f8.f8.f8.f8.f8.f8; refine x_cut (X := Int × Nat) ((y37 + 50) + y110, g17) ?_ ?_; rotate_left
        ·exact ⟨rfl, rfl, rfl, rfl, rfl, rfl, rfl, rfl, rfl, rfl, rfl, rfl, trivial⟩
        (try dsimp only); exact ⟨by omega, B, S⟩
     ·have S := S.f5; refine t_f Tryz.call68 rfl (spec_l1Below 50 S (K.below B)) ?_ rfl; rintro e w109 ⟨y110, rfl, hf110, S, x110⟩; refine ⟨_, rfl, ?_⟩; have B := B.trans x110; refine t_alt ?_ ?_
      ·refine t_bx1 S.tail.tail.box ab_int rfl rfl ?_ rfl; refine t_alt ?_ ?_
       ·refine t_add rfl rfl (by omega) ?_ rfl; refine t_alt ?_ ?_
        ·refine t_add rfl rfl (by omega) ?_ rfl; refine t_alt ?_ ?_
         ·refine t_g (fun w => b_hop4 _ _ _ _ w) rfl ?_ rfl; refine t_w S z_hop rfl ?_ rfl rfl; intro g17 w111 x112 S; have B := bx Hb B x112; refine t_stn S sb_hop rfl rfl rfl rfl (by repeat first | exact oc0 | refine oc rfl ?_) ?_; intro w113 b114 S; have B := B.trans b114; refine t_d' ?_; have S := S.f8.f8.f3.f8.f8.f8.f8.f8.f8; refine x_cut (X := Int × Nat) ((y37 + 50) + y110, g17) ?_ ?_; rotate_left
          ·exact ⟨rfl, rfl, rfl, rfl, rfl, rfl, rfl, rfl, rfl, rfl, rfl, rfl, trivial⟩
          (try dsimp only); exact ⟨by omega, B, S⟩
         ·refine t_w S z_hop rfl ?_ rfl rfl; intro g17 w115 x116 S; have B := bx Hb B x116; refine t_g (fun w => b_hop4 _ _ _ _ w) rfl ?_ rfl; refine t_stn S sb_hop rfl rfl rfl rfl (by repeat first | exact oc0 | refine oc rfl ?_) ?_; intro w117 b118 S; have B := B.trans b118; refine t_d' ?_; have S := S.f8.f8.f3.f8.f8.f8.f8.f8.f8; refine x_cut (X := Int × Nat) ((y37 + 50) + y110, g17) ?_ ?_; rotate_left
          ·exact ⟨rfl, rfl, rfl, rfl, rfl, rfl, rfl, rfl, rfl, rfl, rfl, rfl, trivial⟩
          (try dsimp only); exact ⟨by omega, B, S⟩
        ·refine t_w S z_hop rfl ?_ rfl rfl; intro g17 w119 x120 S; have B := bx Hb B x120; refine t_add rfl rfl (by omega) ?_ rfl; refine t_g (fun w => b_hop4 _ _ _ _ w) rfl ?_ rfl; refine t_stn S sb_hop rfl rfl rfl rfl (by repeat first | exact oc0 | refine oc rfl ?_) ?_; intro w121 b122 S; have B := B.trans b122; refine t_d' ?_; have S := S.f8.f8.f3.f8.f8.f8.f8.f8.f8; refine x_cut (X := Int × Nat) ((y37 + 50) + y110, g17) ?_ ?_; rotate_left
         ·exact ⟨rfl, rfl, rfl, rfl, rfl, rfl, rfl, rfl, rfl, rfl, rfl, rfl, trivial⟩
         (try dsimp only); exact ⟨by omega, B, S⟩
       ·refine t_w S z_hop rfl ?_ rfl rfl; intro g17 w123 x124 S; have B := bx Hb B x124; refine t_add rfl rfl (by omega) ?_ rfl; refine t_add rfl rfl (by omega) ?_ rfl; refine t_g (fun w => b_hop4 _ _ _ _ w) rfl ?_ rfl; refine t_stn S sb_hop rfl rfl rfl rfl (by repeat first | exact oc0 | refine oc rfl ?_) ?_; intro w125 b126 S; have B := B.trans b126; refine t_d' ?_; have S := S.f8.f8.f3.f8.f8.f8.f8.f8.f8; refine x_cut (X := Int × Nat) ((y37 + 50) + y110, g17) ?_ ?_; rotate_left
        ·exact ⟨rfl, rfl, rfl, rfl, rfl, rfl, rfl, rfl, rfl, rfl, rfl, rfl, trivial⟩
        (try dsimp only); exact ⟨by omega, B, S⟩
      ·refine t_w S z_hop rfl ?_ rfl rfl; intro g17 w127 x128 S; have B := bx Hb B x128; refine t_bx1 S.tail.tail.tail.box ab_int rfl rfl ?_ rfl; refine t_add rfl rfl (by omega) ?_ rfl; refine t_add rfl rfl (by omega) ?_ rfl; refine t_g (fun w => b_hop4 _ _ _ _ w) rfl ?_ rfl; refine t_stn S sb_hop rfl rfl rfl rfl (by repeat first | exact oc0 | refine oc rfl ?_) ?_; intro w129 b130 S; have B := B.trans b130; refine t_d' ?_; have S := S.f8.f8.f3.f8.f8.f8.f8.f8.f8; refine x_cut (X := Int × Nat) ((y37 + 50) + y110, g17) ?_ ?_; rotate_left
       ·exact ⟨rfl, rfl, rfl, rfl, rfl, rfl, rfl, rfl, rfl, rfl, rfl, rfl, trivial⟩
       (try dsimp only); exact ⟨by omega, B, S⟩
     ·refine t_w S z_hop rfl ?_ rfl rfl; intro g17 w131 x132 S; have B := bx Hb B x132; refine t_alt ?_ ?_
      ·refine t_bx1 S.tail.tail.box ab_int rfl rfl ?_ rfl; refine t_alt ?_ ?_
       ·refine t_add rfl rfl (by omega) ?_ rfl; have S := S.f6; refine t_f Tryz.call68 rfl (spec_l1Below 50 S (K.below B)) ?_ rfl; rintro e w133 ⟨y110, rfl, hf110, S, x134⟩; refine ⟨_, rfl, ?_⟩; have B := B.trans x134; refine t_add rfl rfl (by omega) ?_ rfl; refine t_g (fun w => b_hop4 _ _ _ _ w) rfl ?_ rfl; have S := S.f1; refine t_stn S sb_hop rfl rfl rfl rfl (by repeat first | exact oc0 | refine oc rfl ?_) ?_; intro w135 b136 S; have B := B.trans b136; refine t_d' ?_; have S := S.f8.f8.f3.f8.f8.f8.f8.f8.f8; refine x_cut (X := Int × Nat) ((y37 + 50) + y110, g17) ?_ ?_; rotate_left
        ·exact ⟨rfl, rfl, rfl, rfl, rfl, rfl, rfl, rfl, rfl, rfl, rfl, rfl, trivial⟩
        (try dsimp only); exact ⟨by omega, B, S⟩
       ·have S := S.f6; refine t_f Tryz.call68 rfl (spec_l1Below 50 S (K.below B)) ?_ rfl; rintro e w137 ⟨y110, rfl, hf110, S, x138⟩; refine ⟨_, rfl, ?_⟩; have B := B.trans x138; refine t_add rfl rfl (by omega) ?_ rfl; refine t_add rfl rfl (by omega) ?_ rfl; refine t_g (fun w => b_hop4 _ _ _ _ w) rfl ?_ rfl; have S := S.f1; refine t_stn S sb_hop rfl rfl rfl rfl (by repeat first | exact oc0 | refine oc rfl ?_) ?_; intro w139 b140 S; have B := B.trans b140; refine t_d' ?_; have S := S.f8.f8.f3.f8.f8.f8.f8.f8.f8; refine x_cut (X := Int × Nat) ((y37 + 50) + y110, g17) ?_ ?_; rotate_left
        ·exact ⟨rfl, rfl, rfl, rfl, rfl, rfl, rfl, rfl, rfl, rfl, rfl, rfl, trivial⟩
        (try dsimp only); exact ⟨by omega, B, S⟩
      ·have S := S.f6; refine t_f Tryz.call68 rfl (spec_l1Below 50 S (K.below B)) ?_ rfl; rintro e w141 ⟨y110, rfl, hf110, S, x142⟩; refine ⟨_, rfl, ?_⟩; have B := B.trans x142; refine t_bx1 S.tail.tail.tail.box ab_int rfl rfl ?_ rfl; refine t_add rfl rfl (by omega) ?_ rfl; refine t_add rfl rfl (by omega) ?_ rfl; refine t_g (fun w => b_hop4 _ _ _ _ w) rfl ?_ rfl; have S := S.f1; refine t_stn S sb_hop rfl rfl rfl rfl (by repeat first | exact oc0 | refine oc rfl ?_) ?_; intro w143 b144 S; have B := B.trans b144; refine t_d' ?_; have S := S.f8.f8.f3.f8.f8.f8.f8.f8.f8; refine x_cut (X := Int × Nat) ((y37 + 50) + y110, g17) ?_ ?_; rotate_left
       ·exact ⟨rfl, rfl, rfl, rfl, rfl, rfl, rfl, rfl, rfl, rfl, rfl, rfl, trivial⟩
       (try dsimp only); exact ⟨by omega, B, S⟩
    rintro ⟨x, g⟩ w145 hI; (try dsimp only at hI ⊢); obtain ⟨hx, B, S⟩ := hI; obtain ⟨ea, hea⟩ := getx (l := A) (k := r.toNat) (by omega); refine w_s ?_; refine w_cut (X := List Hop × Value) (fun x wq => (fun hs2 vh2 => hs2.length ≤ k + 1 ∧ SealK ⟨A, L⟩ y37 y39 hs2 ∧ Below b w wq ∧ Sep b wq (slO hopT 87 vh2 hs2 :: bxO g9 67 #[I y37, I y39, vh2] :: slO intT 3 vq q :: bxO g6 67 #[I 0, I 0, .slice none 0 0] :: bxO g4 27 #[va, vl] :: curO v n c 123 :: slO asnT 117 va A :: slO linkT 90 vl L :: os)) x.1 x.2) (fun x => (fun hs2 vh2 => [(13, I z), (12, I ((k : Int))), (10, I r), (11, I i), (0, .pointer (some ⟨c, 0, none⟩)), (2, I kd), (4, .pointer (some ⟨g4, 0, none⟩)), (6, .pointer (some ⟨g6, 0, none⟩)), (9, .pointer (some ⟨g9, 0, none⟩)), (15, I ((remote (⟨A, L⟩ : Topo) r o).1)), (16, I ((remote (⟨A, L⟩ : Topo) r o).2))]) x.1 x.2) ?_ ?_
    ·refine w_draw (.st .take 0 (.st .take 1 (.st .take 2 (.st .take 3 (.st .take 4 (.st .take 5 (.st .take 6 (.st .take 7 (.st .take 8 (.st .take 9 (.st .take 10 (.st .take 11 (.st .take 12 (.st .take 13 (.st .take 15 (.st .run 14 (.st .run 16 (.st .run 17 (.st .fin 18 (.st .fin 19 (.st .fin 20 .done))))))))))))))))))))) mixed (by kernel_rfl) ?_; intro w146 x147; have B := bx Hb B x147; have S := S.below x147; refine t_y fb_seg_2 rfl rfl ?_ rfl; refine t_bx1 S.tail.tail.box ab_s_hop rfl rfl ?_ rfl; refine t_y fb_topo_0 rfl rfl ?_ rfl; refine t_bx1 S.t4.tail.box ab_s_asn rfl rfl ?_ rfl; refine t_m rfl ?_ rfl; refine t_idx e_asn (k := r.toNat) (S.t4.tail.tail.tail.sl) hea (Below.refl _ _) rfl rfl (by first | rfl | omega) ?_ rfl; intro p118 hp118; refine t_fld ln_asn_2 ‹_› fb_asn_2 rfl ?_ rfl; intro p119 hp119; refine t_ldi ‹_› ab_int (Below.refl _ _) rfl ?_ rfl; refine t_y fb_seg_0 rfl rfl ?_ rfl; refine t_bx1 S.tail.tail.box ab_int rfl rfl ?_ rfl; refine t_b S.tail.tail.box ab_seg sb_seg rfl rfl ?_ rfl; refine t_y fb_seg_2 rfl rfl ?_ rfl; refine t_bx1 S.tail.tail.box ab_s_hop rfl rfl ?_ rfl; refine t_len e_hop (S.tail.sl) rfl rfl ?_ rfl; refine t_b S.box ab_hop sb_hop rfl rfl ?_ rfl
     refine t_x Tryz.call143 rfl (spec_BetaAt (⟨y37, y39, hs⟩ : Seg) _ _ _ (seg_mkv (x := (⟨y37, y39, hs⟩ : Seg)) (S.tail.sl)) (by (try dsimp only); omega)) ?_ rfl rfl; intro w148 x149; have B := bx Hb B x149; have S := S.below x149; replace hp118 := hp118.below x149; replace hp119 := hp119.below x149; refine t_x Tryz.call142 rfl (spec_AuthenticateHop _ _ _ (⟨r, i, z, x, 0⟩) _) ?_ rfl rfl; intro w150 x151; have B := bx Hb B x151; have S := S.below x151; replace hp118 := hp118.below x151; replace hp119 := hp119.below x151
     refine t_lit (T := hopT) (l := [((authHop ea.key y37 (segBeta (⟨y37, y39, hs⟩ : Seg) (hs.length : Int)) (⟨r, i, z, x, 0⟩)) : Hop)]) (css := [[I (((authHop ea.key y37 (segBeta (⟨y37, y39, hs⟩ : Seg) (hs.length : Int)) (⟨r, i, z, x, 0⟩))).ia), I (((authHop ea.key y37 (segBeta (⟨y37, y39, hs⟩ : Seg) (hs.length : Int)) (⟨r, i, z, x, 0⟩))).ing), I (((authHop ea.key y37 (segBeta (⟨y37, y39, hs⟩ : Seg) (hs.length : Int)) (⟨r, i, z, x, 0⟩))).eg), I (((authHop ea.key y37 (segBeta (⟨y37, y39, hs⟩ : Seg) (hs.length : Int)) (⟨r, i, z, x, 0⟩))).exp), I (((authHop ea.key y37 (segBeta (⟨y37, y39, hs⟩ : Seg) (hs.length : Int)) (⟨r, i, z, x, 0⟩))).mac)]]) hop_flat S (fun w => bs_hop1 _ _ _ _ _ w) rfl rfl rfl rfl (by simp [maxLen]) (litR_one fun _ => rfl) ?_ rfl rfl; intro u130 w152 x153 S; have B := bx Hb B x153; have hR := S.sl; have S := S.f2; refine t_cat hop_flat e_hop S hR rfl rfl rfl (by first | omega | (simp [-List.length_flatMap]; omega)) (by (simp [maxLen, -List.length_flatMap]; try omega)) ?_ rfl; intro v131 w154 x155 S; have B := B.trans x155; clear hR; have S := S.f1.tail; refine t_y fb_seg_2 rfl rfl ?_ rfl; obtain ⟨Av131, cv131, rfl, _⟩ := S.sl.form; have S := S.f2
     refine t_st1 S sb_s_hop rfl rfl rfl rfl rfl ?_; intro w156 b157 S; have B := B.trans b157; refine t_d' ?_; have S := S.f2.tail.f7.f7.f7.f7.f7.f7.f6.f7; refine x_cut (X := List Hop × Value) (hs ++ [authHop ea.key y37 (segBeta ⟨y37, y39, hs⟩ hs.length) ⟨r, i, z, x, 0⟩], .slice Av131 (hs ++ ([((authHop ea.key y37 (segBeta (⟨y37, y39, hs⟩ : Seg) (hs.length : Int)) (⟨r, i, z, x, 0⟩)) : Hop)])).length cv131) ?_ ?_; rotate_left
     ·exact ⟨rfl, rfl, rfl, rfl, rfl, rfl, rfl, rfl, rfl, rfl, rfl, trivial⟩
     (try dsimp only); exact ⟨by rw [List.length_append, List.length_singleton]; omega, seal_next (r := r) (i := i) (e := z) (x := x) hS hA8 hr hea hi hzr hiz (by omega) rfl, B, S⟩
    rintro ⟨hs2, vh2⟩ w158 hI; (try dsimp only at hI ⊢); obtain ⟨hl2, hS2, B, S⟩ := hI; (iterate 2 refine w_s ?_); refine w_g ?_; refine t_m rfl ?_ rfl; refine t_eql rfl rfl ?_ rfl; refine t_e ?_; refine w_if rfl ?_ ?_
    ·intro hz0; refine w_h ?_; refine t_b S.tail.box ab_seg sb_seg rfl rfl ?_ rfl; have S := S.f3; refine t_stn S sb_seg rfl rfl rfl rfl (by repeat first | exact oc0 | refine oc rfl ?_ | refine oc (SlR.cells (S.tail.sl)).2 ?_) ?_; intro w159 b160 S; have B := B.trans b160; refine t_e ?_; refine w_r ?_; refine x_t ?_; refine x_block_ret ?_; (iterate 2 refine x_t ?_); refine x_block_ret ?_; refine x_t ?_; refine x_retc rfl rfl S.box ab_seg sb_seg rfl ?_; have S := S.tail.f1.tail.f1.tail.f1.tail.f3.f3.f3.f3; exact ⟨_, ⟨y37, y39, hs2⟩, rfl, hS2.seg (by omega) (by omega) (by omega) (by omega) (by omega), S, B⟩
    ·intro hz0; refine w_k ?_; refine x_s ?_; refine w_h ?_; refine t_m rfl ?_ rfl; refine t_a rfl ?_ rfl; refine t_e ?_; refine w_g ?_; refine t_m rfl ?_ rfl; refine t_a rfl ?_ rfl; refine t_d ?_; refine x_b ?_; refine x_s ?_; refine w_g ?_; refine t_m rfl ?_ rfl; refine t_add rfl rfl (by omega) ?_ rfl; refine t_a rfl ?_ rfl; refine t_d ?_
     have hzo : z = o := by omega
     have hrem2 := hrem (by omega); refine x_r (X := Nat × Int × Int × List Hop × Value) (k + 1, (remote ⟨A, L⟩ r o).1, (remote ⟨A, L⟩ r o).2, hs2, vh2) ?_ (by exact ⟨rfl, rfl, rfl, rfl, rfl, rfl, rfl, rfl, trivial⟩) (by (try dsimp only); omega); (try dsimp only); exact ⟨by omega, hrem2.1, by omega, hl2, hS2, B, S⟩
   ·intro hge; refine w_exit ?_; (iterate 2 refine x_then_exit ?_); refine x_block_exit ?_; refine x_s ?_; refine w_h ?_; refine t_b S.tail.box ab_seg sb_seg rfl rfl ?_ rfl; have S := S.f3; refine t_stn S sb_seg rfl rfl rfl rfl (by repeat first | exact oc0 | refine oc rfl ?_ | refine oc (SlR.cells (S.tail.sl)).2 ?_) ?_; intro w161 b162 S; have B := B.trans b162; refine t_e ?_; refine w_r ?_; refine x_retc rfl rfl S.box ab_seg sb_seg rfl ?_; have S := S.tail.f1.tail.f1.tail.f1.tail.f3.f3.f3.f3; exact ⟨_, ⟨y37, y39, hs⟩, rfl, hS.seg (by omega) (by omega) (by omega) (by omega) (by omega), S, B⟩
section
variable {P : Program} {n : Nat} {L : Frm} {w : World}
theorem x_rettc {fn : Func} {R : Ending → World → Prop} {t0 : Nat} {v0 : Value} {t1 g1 sz1 : Nat} {tt1 tb1 : TypeId} {C1 : Array Value} (hr : fn.results = #[.tmp t0, .cell t1 tt1]) (h0 : look L t0 = some v0) (h1 : look L t1 = some (.pointer (some ⟨g1, 0, none⟩))) (hb1 : w.heap[g1]? = some (.cells C1 tb1 (0, 0))) (ha1 : aggB P tt1 = some true) (hs1 : sizeB P tt1 = some sz1) (hz1 : C1.size = sz1) (h : R (.returned (.tuple #[v0, .agg C1])) w) : WX n (bodyPost P fn R) .ret L w := by
  intro a hE; subst hz1; have k0 := hE.at_ _ _ h0; have k1 := hE.at_ _ _ h1; refine bodyPost_ret ?_ hE.defers h
  simp [results, hr, k0, k1, asAddr, run_loadBox hb1 ha1 hs1]
theorem x_retcc {fn : Func} {R : Ending → World → Prop} {t0 g0 sz0 : Nat} {tt0 tb0 : TypeId} {C0 : Array Value} {t1 g1 sz1 : Nat} {tt1 tb1 : TypeId} {C1 : Array Value} (hr : fn.results = #[.cell t0 tt0, .cell t1 tt1]) (h0 : look L t0 = some (.pointer (some ⟨g0, 0, none⟩))) (hb0 : w.heap[g0]? = some (.cells C0 tb0 (0, 0))) (ha0 : aggB P tt0 = some true) (hs0 : sizeB P tt0 = some sz0) (hz0 : C0.size = sz0) (h1 : look L t1 = some (.pointer (some ⟨g1, 0, none⟩))) (hb1 : w.heap[g1]? = some (.cells C1 tb1 (0, 0))) (ha1 : aggB P tt1 = some true) (hs1 : sizeB P tt1 = some sz1) (hz1 : C1.size = sz1) (h : R (.returned (.tuple #[.agg C0, .agg C1])) w) : WX n (bodyPost P fn R) .ret L w := by
  intro a hE; subst hz0; subst hz1; have k0 := hE.at_ _ _ h0; have k1 := hE.at_ _ _ h1; refine bodyPost_ret ?_ hE.defers h
  simp [results, hr, k0, asAddr, run_loadBox hb0 ha0 hs0, k1, run_loadBox hb1 ha1 hs1]
end
end Go.Proofs.YtljkgpembicloaaGreat
