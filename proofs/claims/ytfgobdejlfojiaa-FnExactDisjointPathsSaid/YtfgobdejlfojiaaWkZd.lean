/- DisjointPaths, of the program and of the reference. -/
import Derived.Test.YtfgobdejlfojiaaWkZ
import Derived.Test.YtfgobdejlfojiaaIfaces
namespace Go.Proofs.Ytfgobdejlfojiaa
open Go.RowKit
set_option linter.unusedVariables false
set_option maxRecDepth 20000

def sharedP (p q : Path) : Nat := shared (nums (pathSteps p)) (nums (pathSteps q))
def costP (p : Path) (l : List Path) : Nat := (l.map (sharedP p)).sum
theorem sharedP_le {p : Path} (q : Path) (h : sz_path p ≤ 1048576) : sharedP p q ≤ 2097152 := by
  unfold sharedP shared
  have h1 := List.length_filter_le (fun x => (nums (pathSteps q)).contains x) (nums (pathSteps p))
  have h2 := nums_len (pathSteps p)
  have h3 := pathSteps_len p
  omega
theorem costP_le {p : Path} (l : List Path) (h : sz_path p ≤ 1048576) : costP p l ≤ 2097152 * l.length := by
  unfold costP
  induction l with
  | nil => simp
  | cons a t ih =>
    have := sharedP_le a h
    rw [List.map_cons, List.sum_cons, List.length_cons]
    omega
theorem costP_succ {p x : Path} {l : List Path} {k : Nat} (h : l[k]? = some x) : costP p (l.take (k + 1)) = costP p (l.take k) + sharedP p x := by
  unfold costP
  rw [take_succ h, List.map_append, List.sum_append]
  simp
/-- The place of the first path of the least cost among the first k. -/
def bestK (rest out : List Path) : Nat → Nat
  | 0 => 0
  | k + 1 => match rest[k]?, rest[bestK rest out k]? with
    | some p, some q => if costP p out < costP q out then k else bestK rest out k
    | _, _ => bestK rest out k
theorem bestK_lt (rest out : List Path) : ∀ k, 0 < k → k ≤ rest.length → bestK rest out k < k
  | 0, h, _ => by omega
  | k + 1, _, hk => by
    rw [bestK]
    rcases Nat.eq_zero_or_pos k with h0 | h0
    · subst h0
      have : bestK rest out 0 = 0 := rfl
      rw [this]
      split
      · split <;> omega
      · omega
    · have := bestK_lt rest out k h0 (by omega)
      split
      · split <;> omega
      · omega
theorem bestK_one (rest out : List Path) : bestK rest out 1 = 0 := by
  rw [bestK]
  split
  · split <;> rfl
  · rfl
theorem bestK_yes {rest out : List Path} {k : Nat} {p q : Path} (hp : rest[k]? = some p) (hq : rest[bestK rest out k]? = some q) (h : costP p out < costP q out) : bestK rest out (k + 1) = k := by rw [bestK, hp, hq]; simp only [if_pos h]
theorem bestK_no {rest out : List Path} {k : Nat} {p q : Path} (hp : rest[k]? = some p) (hq : rest[bestK rest out k]? = some q) (h : ¬ costP p out < costP q out) : bestK rest out (k + 1) = bestK rest out k := by rw [bestK, hp, hq]; simp only [if_neg h]
def disjL (n : Int) : Nat → List Path → List Path → List Path
  | 0, _, out => out
  | f + 1, rest, out => if (out.length : Int) < n then match rest[bestK rest out rest.length]? with
      | some x => disjL n f (rest.take (bestK rest out rest.length) ++ rest.drop (bestK rest out rest.length + 1)) (out ++ [x])
      | none => out
    else out
def disj (l : List Path) (n : Int) : List Path := disjL n (sortP l).length (sortP l) []
theorem disjL_step {n : Int} {f : Nat} {rest out : List Path} {x : Path} (h : (out.length : Int) < n) (hx : rest[bestK rest out rest.length]? = some x) : disjL n (f + 1) rest out = disjL n f (rest.take (bestK rest out rest.length) ++ rest.drop (bestK rest out rest.length + 1)) (out ++ [x]) := by rw [disjL, if_pos h, hx]
theorem disjL_full {n : Int} {f : Nat} {rest out : List Path} (h : ¬ (out.length : Int) < n) : disjL n f rest out = out := by
  cases f with
  | zero => rfl
  | succ f => rw [disjL, if_neg h]
theorem cut_one {α : Type} {l : List α} {b : Nat} {x : α} (hx : l[b]? = some x) : l = l.take b ++ x :: l.drop (b + 1) := by
  have h := List.getElem?_eq_some_iff.1 hx
  rw [← h.2, ← List.drop_eq_getElem_cons h.1, List.take_append_drop]
theorem sz_cut_one {l : List Path} {b : Nat} {x : Path} (hx : l[b]? = some x) : sz_paths (l.take b ++ l.drop (b + 1)) + 1 + sz_path x = sz_paths l := by
  have h : sz_paths l = sz_paths (l.take b ++ x :: l.drop (b + 1)) := congrArg _ (cut_one hx)
  rw [h, sz_paths_app, sz_paths_app, show x :: l.drop (b + 1) = [x] ++ l.drop (b + 1) from rfl, sz_paths_app, sz_paths_one]
  omega
theorem len_cut_one {l : List Path} {b : Nat} {x : Path} (hx : l[b]? = some x) : (l.take b ++ l.drop (b + 1)).length + 1 = l.length := by
  have := (List.getElem?_eq_some_iff.1 hx).1
  rw [List.length_append, List.length_take, List.length_drop]
  omega
theorem mem_cut_one {l : List Path} {b : Nat} {y : Path} (h : y ∈ l.take b ++ l.drop (b + 1)) : y ∈ l := by
  rcases List.mem_append.1 h with h | h
  · exact List.mem_of_mem_take h
  · exact List.mem_of_mem_drop h
theorem disjL_sz (n : Int) : ∀ (f : Nat) (rest out : List Path), sz_paths (disjL n f rest out) ≤ sz_paths rest + sz_paths out
  | 0, rest, out => by rw [disjL]; omega
  | f + 1, rest, out => by
    rw [disjL]
    split
    · split
      · rename_i x hx
        have h1 := disjL_sz n f (rest.take (bestK rest out rest.length) ++ rest.drop (bestK rest out rest.length + 1)) (out ++ [x])
        have h2 := sz_cut_one hx
        rw [sz_paths_app out, sz_paths_one] at h1
        omega
      · omega
    · omega
theorem disj_sz (l : List Path) (n : Int) : sz_paths (disj l n) ≤ sz_paths l := by
  have := disjL_sz n (sortP l).length (sortP l) []
  rw [(sortP_all l).1] at this
  have h0 : sz_paths [] = 0 := rfl
  rw [h0] at this
  exact this
theorem set_same {α : Type} {l : List α} {i : Nat} {x : α} (h : l[i]? = some x) : l.set i x = l := by
  apply List.ext_getElem?
  intro j
  by_cases hij : i = j
  · subst hij
    have := (List.getElem?_eq_some_iff.1 h).1
    rw [List.getElem?_set_self this, h]
  · rw [List.getElem?_set_ne hij]
theorem impl_SharedP (a b : Path) (v u : Value) (w : World) (h : VA pathT w v a) (h' : VA pathT w u b) (hz : sz_path a ≤ 1048576) (hl : lenOk_path a) (hg : rng_path a) (hz' : sz_path b ≤ 1048576) (hl' : lenOk_path b) (hg' : rng_path b) : Calls Try.prog 119 #[v, u] w fun e w' => e = .returned (I (sharedP a b : Int)) ∧ Below w.heap.size w w' :=
  va2 h h' fun cs ds h h2 => impl_SharedInterfaces _ cs _ ds _ h hz hl hg h2 hz' hl' hg'
theorem spec_SharedP (a b : Path) (v u : Value) (w : World) (h : VA pathT w v a) (h' : VA pathT w u b) (hz : sz_path a ≤ 1048576) (hl : lenOk_path a) (hg : rng_path a) (hz' : sz_path b ≤ 1048576) (hl' : lenOk_path b) (hg' : rng_path b) : Calls Try.prog 168 #[v, u] w fun e w' => e = .returned (I (sharedP a b : Int)) ∧ Below w.heap.size w w' :=
  va2 h h' fun cs ds h h2 => spec_SharedInterfaces _ cs _ ds _ h hz hl hg h2 hz' hl' hg'
theorem spec_l24Cost (p : Path) (l : List Path) (u v : Value) (w : World) (hp : VA pathT w u p) (h : SlR pathT w v l) (hz' : sz_path p ≤ 1048576) (hl' : lenOk_path p) (hg' : rng_path p) (hz : sz_paths l ≤ 1048576) (hl : ∀ x ∈ l, lenOk_path x) (hg : ∀ x ∈ l, rng_path x) : Calls Try.prog 118 #[u, v] w fun e w' => e = .returned (I (costP p l : Int)) ∧ Below w.heap.size w w' := by
  have hll : l.length ≤ 1048576 := by unfold sz_paths at hz; omega
  have X0 := Below.refl w.heap.size w
  refine enter Try.func118 rfl Try.ntmps118 rfl ?_
  refine w_seq ?_
  refine w_region ?_
  refine t_boxr (by assumption) rfl ?_ rfl rfl
  intro p2 w1 x2 hp2
  replace hp := hp.below x2
  replace h := h.below x2
  have X0 := ext_trans X0 x2
  have S := Sep.nil w1
  have B := Below.refl w1.heap.size w1
  have Hb := Nat.le_refl w1.heap.size
  refine t_assign rfl ?_ rfl
  refine t_done ?_
  refine x_seq ?_
  refine w_seq ?_
  refine w_region ?_
  refine t_assign rfl ?_ rfl
  refine t_done ?_
  refine x_seq ?_
  refine w_seq ?_
  refine w_seq ?_
  refine w_region ?_
  refine t_assign rfl ?_ rfl
  refine t_done ?_
  refine x_seq ?_
  refine w_block ?_
  refine w_loop (X := Nat × Int) (fun x wq => (fun k c => k ≤ l.length ∧ c = (costP p (l.take k) : Int) ∧ Below w1.heap.size w1 wq ∧ Sep w1.heap.size wq []) x.1 x.2) (fun x => (fun k c => [(6, I ((k : Int))), (5, I c), (1, v), (2, p2), (4, I 0)]) x.1 x.2) (fun x => (fun k c => l.length - k) x.1 x.2) (0, 0) ?_ ⟨rfl, rfl, rfl, rfl, rfl, trivial⟩ ?_
  · exact ⟨by omega, rfl, B, S⟩
  · rintro ⟨k, c⟩ w3 hI
    try dsimp only at hI ⊢
    obtain ⟨hk, hc, B, S⟩ := hI
    have hcl := costP_le (l.take k) hz'
    rw [List.length_take] at hcl
    refine w_seq ?_
    refine w_seq ?_
    refine w_region ?_
    refine t_move rfl ?_ rfl
    refine t_move rfl ?_ rfl
    refine t_len e_path (by assumption) rfl rfl ?_ rfl
    refine t_lss rfl rfl ?_ rfl
    refine t_done ?_
    refine x_seq ?_
    refine w_if rfl ?_ ?_
    · intro hlt
      obtain ⟨x, hx⟩ : ∃ e, l[k]? = some e := getx (by omega)
      have hxm := List.mem_of_getElem? hx
      have hzx := sz_paths_mem hxm
      have hlx := hl x hxm
      have hgx := hg x hxm
      have hsx := sharedP_le x hz'
      refine w_skip ?_
      refine x_seq ?_
      refine w_seq ?_
      refine w_block ?_
      refine w_draw (.st .take 0 (.st .take 1 (.st .take 2 (.st .take 3 (.st .take 4 (.st .take 5 (.st .run 6 (.st .take 7 (.st .take 8 .done))))))))) mixed (by kernel_rfl) ?_
      intro w4 x5
      have B := bx Hb B x5
      have S := S.below x5
      refine t_move rfl ?_ rfl
      refine t_lda (by assumption) ab_path sb_path B rfl ?_ rfl
      intro v14 hv14
      obtain ⟨v14_0, rfl, hv14_0⟩ := path_va hv14
      refine t_move rfl ?_ rfl
      refine t_move rfl ?_ rfl
      refine t_idx e_path (k := k) (by assumption) hx B rfl rfl (by first | rfl | omega) ?_ rfl
      intro p17 hp17
      refine t_lda (by assumption) ab_path sb_path B rfl ?_ rfl
      intro v18 hv18
      obtain ⟨v18_0, rfl, hv18_0⟩ := path_va hv18
      refine t_callx Try.call168 rfl (spec_SharedP _ _ _ _ _ (by first | assumption | exact VA.below (by assumption) B | exact path_mkv (by first | assumption | exact SlR.below (by assumption) B)) (by first | assumption | exact VA.below (by assumption) B | exact path_mkv (by first | assumption | exact SlR.below (by assumption) B)) (by omega) (by assumption) (by assumption) (by omega) (by assumption) (by assumption)) ?_ rfl rfl
      intro w6 x7
      have B := bx Hb B x7
      have S := S.below x7
      refine t_add rfl rfl (by omega) ?_ rfl
      refine t_assign rfl ?_ rfl
      refine t_done' ?_
      refine x_block_normal ?_
      refine x_seq ?_
      refine w_region ?_
      refine t_move rfl ?_ rfl
      refine t_add rfl rfl (by omega) ?_ rfl
      refine t_assign rfl ?_ rfl
      refine t_done ?_
      refine x_round (X := Nat × Int) (I := (fun x wq => (fun k c => k ≤ l.length ∧ c = (costP p (l.take k) : Int) ∧ Below w1.heap.size w1 wq ∧ Sep w1.heap.size wq []) x.1 x.2)) (F := (fun x => (fun k c => [(6, I ((k : Int))), (5, I c), (1, v), (2, p2), (4, I 0)]) x.1 x.2)) (μ := (fun x => (fun k c => l.length - k) x.1 x.2)) (k + 1, c + (sharedP p x : Int)) ?_ (by exact ⟨rfl, rfl, rfl, rfl, rfl, trivial⟩) (by (try dsimp only); omega)
      try dsimp only
      exact ⟨by omega, by rw [costP_succ hx, hc]; omega, B, S⟩
    · intro hge
      refine w_exit ?_
      refine x_then_exit ?_
      refine x_then_exit ?_
      refine x_block_exit ?_
      refine x_seq ?_
      refine w_seq ?_
      refine w_region ?_
      refine t_move rfl ?_ rfl
      refine t_assign rfl ?_ rfl
      refine t_done ?_
      refine x_seq ?_
      refine w_ret ?_
      refine x_ret1 rfl rfl ?_
      rw [List.take_of_length_le (by omega)] at hc
      exact ⟨ret_int hc, ext_trans X0 B⟩
set_option maxHeartbeats 1000000 in
theorem spec_DisjointPaths (l : List Path) (v : Value) (n : Int) (w : World) (h : SlR pathT w v l) (hz : sz_paths l ≤ 1048576) (hl : ∀ x ∈ l, lenOk_path x) (hg : ∀ x ∈ l, rng_path x) : Calls Try.prog 55 #[v, I n] w fun e w' => ∃ v fp, e = .returned v ∧ SlO pathT 39 w.heap.size w' v (disj l n) fp ∧ Below w.heap.size w w' := by
  have hso := sortP_all l
  have X0 := Below.refl w.heap.size w
  refine enter Try.func55 rfl Try.ntmps55 rfl ?_
  refine w_seq ?_
  refine w_region ?_
  have S := Sep.nil w
  have B := Below.refl w.heap.size w
  have Hb := Nat.le_refl w.heap.size
  refine t_assign rfl ?_ rfl
  refine t_done ?_
  refine x_seq ?_
  refine w_seq ?_
  refine w_region ?_
  refine t_lit0 (T := pathT) S bs_path0 rfl ?_ rfl rfl
  intro A9 w8 x9 S
  have B := bx Hb B x9
  refine t_assign rfl ?_ rfl
  refine t_done ?_
  refine x_seq ?_
  refine w_seq ?_
  refine w_region ?_
  refine t_move rfl ?_ rfl
  refine t_call Try.call49 rfl (spec_SortPaths _ _ _ (by first | assumption | exact SlR.below (by assumption) B) (by omega) (by assumption) (by assumption)) ?_ rfl rfl
  rintro e w10 ⟨v11, fpv11, rfl, hOv11, x11⟩
  refine ⟨_, rfl, x11, ?_⟩
  have S := S.add (o := slO _ _ _ _) x11 hOv11
  have B := bx Hb B x11
  refine t_assign rfl ?_ rfl
  refine t_done ?_
  refine x_seq ?_
  refine w_seq ?_
  refine w_block ?_
  refine w_loop (X := List Path × List Path × Value × Value) (fun x wq => (fun rest out r u => disjL n rest.length rest out = disj l n ∧ sz_paths rest + sz_paths out ≤ sz_paths l ∧ (∀ x ∈ rest, x ∈ l) ∧ (∀ x ∈ out, x ∈ l) ∧ Below w.heap.size w wq ∧ Sep w.heap.size wq [slO pathT 39 r rest, slO pathT 39 u out]) x.1 x.2.1 x.2.2.1 x.2.2.2) (fun x => (fun rest out r u => [(6, r), (5, u), (1, I n), (4, .slice none 0 0)]) x.1 x.2.1 x.2.2.1 x.2.2.2) (fun x => (fun rest out r u => rest.length) x.1 x.2.1 x.2.2.1 x.2.2.2) (sortP l, [], v11, .slice A9 0 0) ?_ ⟨rfl, rfl, rfl, rfl, trivial⟩ ?_
  · exact ⟨rfl, by rw [hso.1]; show sz_paths l + 0 ≤ _; omega, fun x hx => (hso.2.2 x).1 hx, (fun x hx => by cases hx), B, S⟩
  · rintro ⟨rest, out, r, u⟩ w12 hI
    try dsimp only at hI ⊢
    obtain ⟨hq, hsz, hmr, hmo, B, S⟩ := hI
    have hrl : rest.length ≤ 1048576 := by have : sz_paths rest = rest.length + (rest.map sz_path).sum := rfl; omega
    have hol : out.length ≤ 1048576 := by have : sz_paths out = out.length + (out.map sz_path).sum := rfl; omega
    have hzo : sz_paths out ≤ 1048576 := by omega
    have hlo : ∀ x ∈ out, lenOk_path x := fun x hx => hl x (hmo x hx)
    have hgo : ∀ x ∈ out, rng_path x := fun x hx => hg x (hmo x hx)
    refine w_seq ?_
    refine w_seq ?_
    refine w_region ?_
    refine t_move rfl ?_ rfl
    refine t_len e_path (S.sl) rfl rfl ?_ rfl
    refine t_gtr rfl rfl ?_ rfl
    refine t_move rfl ?_ rfl
    refine t_partp (t := 15) rfl ?_ ?_
    · intro h1
      refine t_on rfl rfl ?_
      refine t_move rfl ?_ rfl
      refine t_on rfl rfl ?_
      refine t_len e_path (S.tail.sl) rfl rfl ?_ rfl
      refine t_on rfl rfl ?_
      refine t_move rfl ?_ rfl
      refine t_on rfl rfl ?_
      refine t_lss rfl rfl ?_ rfl
      refine t_pickt rfl rfl ?_ rfl
      refine t_done ?_
      refine x_seq ?_
      refine w_if rfl ?_ ?_
      · intro h2
        refine w_skip ?_
        refine x_seq ?_
        refine w_block ?_
        refine w_seq ?_
        refine w_region ?_
        refine t_assign rfl ?_ rfl
        refine t_done ?_
        refine x_seq ?_
        refine w_seq ?_
        refine w_seq ?_
        refine w_region ?_
        refine t_assign rfl ?_ rfl
        refine t_done ?_
        refine x_seq ?_
        refine w_block ?_
        refine w_loop (X := Nat × Nat) (fun x wq => (fun i b0 => 0 < i ∧ i ≤ rest.length ∧ b0 = bestK rest out i ∧ Below w.heap.size w wq ∧ Sep w.heap.size wq [slO pathT 39 r rest, slO pathT 39 u out]) x.1 x.2) (fun x => (fun i b0 => [(8, I ((i : Int))), (7, I ((b0 : Int))), (6, r), (5, u), (1, I n), (4, .slice none 0 0)]) x.1 x.2) (fun x => (fun i b0 => rest.length - i) x.1 x.2) (1, 0) ?_ ⟨rfl, rfl, rfl, rfl, rfl, rfl, trivial⟩ ?_
        · exact ⟨by omega, by omega, (bestK_one _ _).symm, B, S⟩
        · rintro ⟨i, b0⟩ w13 hI
          try dsimp only at hI ⊢
          obtain ⟨hi0, hi, hb, B, S⟩ := hI
          have hbl := bestK_lt rest out i hi0 hi
          rw [← hb] at hbl
          refine w_seq ?_
          refine w_seq ?_
          refine w_region ?_
          refine t_move rfl ?_ rfl
          refine t_move rfl ?_ rfl
          refine t_len e_path (S.sl) rfl rfl ?_ rfl
          refine t_lss rfl rfl ?_ rfl
          refine t_done ?_
          refine x_seq ?_
          refine w_if rfl ?_ ?_
          · intro hlt
            obtain ⟨x, hx⟩ : ∃ e, rest[i]? = some e := getx (by omega)
            obtain ⟨y, hy⟩ : ∃ e, rest[b0]? = some e := getx (by omega)
            have hxm := List.mem_of_getElem? hx
            have hzx := sz_paths_mem hxm
            have hlx := hl x (hmr x hxm)
            have hgx := hg x (hmr x hxm)
            have hym := List.mem_of_getElem? hy
            have hzy := sz_paths_mem hym
            have hly := hl y (hmr y hym)
            have hgy := hg y (hmr y hym)
            refine w_skip ?_
            refine x_seq ?_
            refine w_seq ?_
            refine w_block ?_
            refine w_seq ?_
            refine w_draw (.st .take 0 (.st .take 1 (.st .take 2 (.st .take 3 (.st .take 4 (.st .take 6 (.st .take 7 (.st .take 8 (.st .take 9 (.st .take 10 (.st .run 5 (.st .run 11 (.st .take 12 .done))))))))))))) mixed (by kernel_rfl) ?_
            intro w14 x15
            have B := bx Hb B x15
            have S := S.below x15
            refine t_move rfl ?_ rfl
            refine t_move rfl ?_ rfl
            refine t_idx e_path (k := i) (S.sl) hx (Below.refl _ _) rfl rfl (by first | rfl | omega) ?_ rfl
            intro p29 hp29
            refine t_lda (by assumption) ab_path sb_path (Below.refl _ _) rfl ?_ rfl
            intro v30 hv30
            obtain ⟨v30_0, rfl, hv30_0⟩ := path_va hv30
            refine t_move rfl ?_ rfl
            refine t_move rfl ?_ rfl
            refine t_move rfl ?_ rfl
            refine t_idx e_path (k := b0) (S.sl) hy (Below.refl _ _) rfl rfl (by first | rfl | omega) ?_ rfl
            intro p35 hp35
            refine t_lda (by assumption) ab_path sb_path (Below.refl _ _) rfl ?_ rfl
            intro v36 hv36
            obtain ⟨v36_0, rfl, hv36_0⟩ := path_va hv36
            refine t_move rfl ?_ rfl
            refine t_callx Try.call118 rfl (spec_l24Cost _ _ _ _ _ (by first | assumption | exact VA.below (by assumption) B | exact path_mkv (by first | assumption | exact SlR.below (by assumption) B)) (S.tail.sl) (by omega) (by assumption) (by assumption) (by omega) (by assumption) (by assumption)) ?_ rfl rfl
            intro w16 x17
            have B := bx Hb B x17
            have S := S.below x17
            replace hv30_0 := hv30_0.below x17
            replace hv36_0 := hv36_0.below x17
            refine t_callx Try.call118 rfl (spec_l24Cost _ _ _ _ _ (by first | assumption | exact VA.below (by assumption) B | exact path_mkv (by first | assumption | exact SlR.below (by assumption) B)) (S.tail.sl) (by omega) (by assumption) (by assumption) (by omega) (by assumption) (by assumption)) ?_ rfl rfl
            intro w18 x19
            have B := bx Hb B x19
            have S := S.below x19
            replace hv30_0 := hv30_0.below x19
            replace hv36_0 := hv36_0.below x19
            refine t_lss rfl rfl ?_ rfl
            refine t_done' ?_
            refine x_seq ?_
            refine w_if rfl ?_ ?_
            · intro hc
              refine w_region ?_
              refine t_move rfl ?_ rfl
              refine t_assign rfl ?_ rfl
              refine t_done ?_
              refine x_block_normal ?_
              refine x_seq ?_
              refine w_region ?_
              refine t_move rfl ?_ rfl
              refine t_add rfl rfl (by omega) ?_ rfl
              refine t_assign rfl ?_ rfl
              refine t_done ?_
              refine x_round (X := Nat × Nat) (I := (fun x wq => (fun i b0 => 0 < i ∧ i ≤ rest.length ∧ b0 = bestK rest out i ∧ Below w.heap.size w wq ∧ Sep w.heap.size wq [slO pathT 39 r rest, slO pathT 39 u out]) x.1 x.2)) (F := (fun x => (fun i b0 => [(8, I ((i : Int))), (7, I ((b0 : Int))), (6, r), (5, u), (1, I n), (4, .slice none 0 0)]) x.1 x.2)) (μ := (fun x => (fun i b0 => rest.length - i) x.1 x.2)) (i + 1, i) ?_ (by exact ⟨rfl, rfl, rfl, rfl, rfl, rfl, trivial⟩) (by (try dsimp only); omega)
              try dsimp only
              exact ⟨by omega, by omega, (bestK_yes hx (by rw [← hb]; exact hy) (by omega)).symm, B, S⟩
            · intro hc
              refine w_skip ?_
              refine x_block_normal ?_
              refine x_seq ?_
              refine w_region ?_
              refine t_move rfl ?_ rfl
              refine t_add rfl rfl (by omega) ?_ rfl
              refine t_assign rfl ?_ rfl
              refine t_done ?_
              refine x_round (X := Nat × Nat) (I := (fun x wq => (fun i b0 => 0 < i ∧ i ≤ rest.length ∧ b0 = bestK rest out i ∧ Below w.heap.size w wq ∧ Sep w.heap.size wq [slO pathT 39 r rest, slO pathT 39 u out]) x.1 x.2)) (F := (fun x => (fun i b0 => [(8, I ((i : Int))), (7, I ((b0 : Int))), (6, r), (5, u), (1, I n), (4, .slice none 0 0)]) x.1 x.2)) (μ := (fun x => (fun i b0 => rest.length - i) x.1 x.2)) (i + 1, b0) ?_ (by exact ⟨rfl, rfl, rfl, rfl, rfl, rfl, trivial⟩) (by (try dsimp only); omega)
              try dsimp only
              exact ⟨by omega, by omega, by rw [bestK_no hx (by rw [← hb]; exact hy) (by omega)]; exact hb, B, S⟩
          · intro hge
            have hil : i = rest.length := by omega
            rw [hil] at hb
            obtain ⟨x, hx⟩ : ∃ e, rest[b0]? = some e := getx (by omega)
            obtain ⟨Gr, Cr, rfl⟩ := S.addr (by omega)
            have hst := disjL_step (n := n) (f := (rest.take b0 ++ rest.drop (b0 + 1)).length) (rest := rest) (out := out) (x := x) (by omega) (by rw [← hb]; exact hx)
            rw [len_cut_one hx, ← hb, hq] at hst
            have hsc := sz_cut_one hx
            have hlc : (([] ++ rest.take b0) ++ rest.drop (b0 + 1)).length + 1 = rest.length := len_cut_one hx
            refine w_exit ?_
            refine x_then_exit ?_
            refine x_then_exit ?_
            refine x_block_exit ?_
            refine x_seq ?_
            refine w_seq ?_
            refine w_region ?_
            refine t_move rfl ?_ rfl
            refine t_move rfl ?_ rfl
            refine t_move rfl ?_ rfl
            refine t_idxx e_path (k := b0) rfl rfl (by first | rfl | omega) (by omega) rfl ?_ rfl
            obtain ⟨cs45, S, hc45⟩ := S.split hx
            obtain ⟨u45, rfl, S⟩ := S.pathOpen
            refine t_ldn (cs := [u45]) ab_path sb_path (fun j z hz => hc45 _ _ _ rfl j z hz) (Below.refl _ _) rfl ?_ rfl
            have S := S.f1
            obtain ⟨cssR, hlR, haR, S⟩ := S.holeOut
            have hnR := S.tail.tail.rowLen
            refine t_lit1 (fun w => bs_path1 _ w) rfl ?_ rfl rfl
            intro A46 w20 x21 hA46
            have B := bx Hb B x21
            have S := S.below x21
            have S := S.f3
            have S := S.pathShut (x := x)
            have S := S.f4
            refine t_snoc e_path S hA46 rfl rfl rfl (by first | omega | (simp; done) | (simp; omega)) (by (simp only [maxLen]); first | omega | (simp; done) | (simp; omega)) ?_ rfl
            intro v47 w22 x23 S
            have B := B.trans x23
            refine t_assign rfl ?_ rfl
            refine t_done ?_
            refine x_seq ?_
            refine w_drawP [1, 2, 3, 5, 6, 7, 8] (.st .run 0 (.st .run 4 (.st .fin 9 (.st .fin 10 .done)))) mixed (by kernel_rfl) ?_
            intro w24 x25
            have B := bx Hb B x25
            have S := S.below x25
            refine p_move rfl ?_ rfl
            refine p_move rfl ?_ rfl
            refine p_sltv e_path (k := b0) rfl rfl (by first | rfl | omega) (by omega) ?_ rfl
            refine p_move rfl ?_ rfl
            refine p_move rfl ?_ rfl
            refine p_add rfl rfl (by omega) ?_ rfl
            refine p_sldv e_path (k := (b0 + 1)) rfl rfl (by first | rfl | omega) (by omega) (by omega) ?_ rfl
            refine p_done ?_
            refine t_lit0 (T := pathT) S bs_path0 rfl ?_ rfl rfl
            intro A48 w26 x27 S
            have B := bx Hb B x27
            have S := S.f2
            have S := S.f1
            refine t_mv0 e_path S (S.tail.tail.tail.tail.rowTake haR b0) (by first | (simp; done) | (simp; omega)) rfl rfl rfl (by first | omega | (simp; done) | (simp; omega)) (by first | (simp [maxLen]; done) | (simp [maxLen]; omega)) ?_ rfl
            intro v52 w28 x29 S
            have B := bx Hb B x29
            have S := S.f2
            have S := S.f1
            refine t_mv e_path S (S.tail.tail.tail.rowDrop haR (b0 + 1)) (by first | (simp; done) | (simp; omega)) rfl rfl rfl (by first | omega | (simp; done) | (simp; omega)) (by first | (simp [maxLen]; done) | (simp [maxLen]; omega)) ?_ rfl
            intro v57 w30 x31 S
            have B := B.trans x31
            refine t_assign rfl ?_ rfl
            refine t_done' ?_
            refine x_block_normal ?_
            have S := S.f2
            have S := S.tail
            refine x_round (X := List Path × List Path × Value × Value) (I := (fun x wq => (fun rest out r u => disjL n rest.length rest out = disj l n ∧ sz_paths rest + sz_paths out ≤ sz_paths l ∧ (∀ x ∈ rest, x ∈ l) ∧ (∀ x ∈ out, x ∈ l) ∧ Below w.heap.size w wq ∧ Sep w.heap.size wq [slO pathT 39 r rest, slO pathT 39 u out]) x.1 x.2.1 x.2.2.1 x.2.2.2)) (F := (fun x => (fun rest out r u => [(6, r), (5, u), (1, I n), (4, .slice none 0 0)]) x.1 x.2.1 x.2.2.1 x.2.2.2)) (μ := (fun x => (fun rest out r u => rest.length) x.1 x.2.1 x.2.2.1 x.2.2.2)) (([] ++ rest.take b0) ++ rest.drop (b0 + 1), out ++ [x], v57, v47) ?_ (by exact ⟨rfl, rfl, rfl, rfl, trivial⟩) (by (try dsimp only); omega)
            try dsimp only
            rw [List.nil_append] at S ⊢
            refine ⟨hst.symm, by rw [sz_paths_app out, sz_paths_one]; omega, fun y hy => hmr y (mem_cut_one hy), fun y hy => ?_, B, S⟩
            rcases List.mem_append.1 hy with hy | hy
            · exact hmo y hy
            · rw [List.mem_singleton] at hy
              rw [hy]
              exact hmr x (List.mem_of_getElem? hx)
      · intro h2
        refine w_exit ?_
        refine x_then_exit ?_
        refine x_then_exit ?_
        refine x_block_exit ?_
        refine x_seq ?_
        refine w_seq ?_
        refine w_region ?_
        refine t_move rfl ?_ rfl
        refine t_assign rfl ?_ rfl
        refine t_done ?_
        refine x_seq ?_
        refine w_ret ?_
        refine x_ret1 rfl rfl ?_
        rw [disjL_full h2] at hq
        rw [← hq]
        obtain ⟨fp, hO⟩ := (S.f1.mono X0.size).head
        exact ⟨_, fp, rfl, hO, ext_trans X0 B⟩
    · intro h1
      refine t_off rfl rfl rfl ?_ rfl
      refine t_off rfl rfl rfl ?_ rfl
      refine t_off rfl rfl rfl ?_ rfl
      refine t_off rfl rfl rfl ?_ rfl
      refine t_pickf rfl rfl ?_ rfl
      refine t_done ?_
      refine x_seq ?_
      refine w_no rfl ?_
      refine w_exit ?_
      refine x_then_exit ?_
      refine x_then_exit ?_
      refine x_block_exit ?_
      refine x_seq ?_
      refine w_seq ?_
      refine w_region ?_
      refine t_move rfl ?_ rfl
      refine t_assign rfl ?_ rfl
      refine t_done ?_
      refine x_seq ?_
      refine w_ret ?_
      refine x_ret1 rfl rfl ?_
      have : rest.length = 0 := by omega
      rw [this] at hq
      have e : disj l n = out := by rw [← hq]; rfl
      rw [e]
      obtain ⟨fp, hO⟩ := (S.f1.mono X0.size).head
      exact ⟨_, fp, rfl, hO, ext_trans X0 B⟩
set_option maxHeartbeats 2000000 in
theorem impl_DisjointPaths (l : List Path) (v : Value) (n : Int) (w : World) (h : SlR pathT w v l) (hz : sz_paths l ≤ 1048576) (hl : ∀ x ∈ l, lenOk_path x) (hg : ∀ x ∈ l, rng_path x) : Calls Try.prog 56 #[v, I n] w fun e w' => ∃ v fp, e = .returned v ∧ SlO pathT 39 w.heap.size w' v (disj l n) fp ∧ Below w.heap.size w w' := by
  have hso := sortP_all l
  have X0 := Below.refl w.heap.size w
  refine enter Try.func56 rfl Try.ntmps56 rfl ?_
  refine w_seq ?_
  refine w_region ?_
  have S := Sep.nil w
  have B := Below.refl w.heap.size w
  have Hb := Nat.le_refl w.heap.size
  refine t_assign rfl ?_ rfl
  refine t_done ?_
  refine x_seq ?_
  refine w_seq ?_
  refine w_region ?_
  refine t_move rfl ?_ rfl
  refine t_call Try.call51 rfl (impl_SortPaths _ _ _ (by first | assumption | exact SlR.below (by assumption) B) (by omega) (by assumption) (by assumption)) ?_ rfl rfl
  rintro e w32 ⟨v15, fpv15, rfl, hOv15, x33⟩
  refine ⟨_, rfl, x33, ?_⟩
  have S := S.add (o := slO _ _ _ _) x33 hOv15
  have B := bx Hb B x33
  refine t_assign rfl ?_ rfl
  refine t_done ?_
  refine x_seq ?_
  refine w_seq ?_
  refine w_region ?_
  refine t_assign rfl ?_ rfl
  refine t_done ?_
  refine x_seq ?_
  refine w_seq ?_
  refine w_block ?_
  refine w_loop (X := List Path × List Path × Value × Value) (fun x wq => (fun rest out r u => disjL n rest.length rest out = disj l n ∧ sz_paths rest + sz_paths out ≤ sz_paths l ∧ (∀ x ∈ rest, x ∈ l) ∧ (∀ x ∈ out, x ∈ l) ∧ Below w.heap.size w wq ∧ Sep w.heap.size wq [slO pathT 39 r rest, slO pathT 39 u out]) x.1 x.2.1 x.2.2.1 x.2.2.2) (fun x => (fun rest out r u => [(5, r), (6, u), (1, I n), (4, .slice none 0 0)]) x.1 x.2.1 x.2.2.1 x.2.2.2) (fun x => (fun rest out r u => rest.length) x.1 x.2.1 x.2.2.1 x.2.2.2) (sortP l, [], v15, .slice none 0 0) ?_ ⟨rfl, rfl, rfl, rfl, trivial⟩ ?_
  · exact ⟨rfl, by rw [hso.1]; show sz_paths l + 0 ≤ _; omega, fun x hx => (hso.2.2 x).1 hx, (fun x hx => by cases hx), B, S.addNil.f1⟩
  · rintro ⟨rest, out, r, u⟩ w34 hI
    try dsimp only at hI ⊢
    obtain ⟨hq, hsz, hmr, hmo, B, S⟩ := hI
    have hrl : rest.length ≤ 1048576 := by have : sz_paths rest = rest.length + (rest.map sz_path).sum := rfl; omega
    have hol : out.length ≤ 1048576 := by have : sz_paths out = out.length + (out.map sz_path).sum := rfl; omega
    have hzo : sz_paths out ≤ 1048576 := by omega
    have hlo : ∀ x ∈ out, lenOk_path x := fun x hx => hl x (hmo x hx)
    have hgo : ∀ x ∈ out, rng_path x := fun x hx => hg x (hmo x hx)
    refine w_seq ?_
    refine w_seq ?_
    refine w_region ?_
    refine t_move rfl ?_ rfl
    refine t_len e_path (S.tail.sl) rfl rfl ?_ rfl
    refine t_move rfl ?_ rfl
    refine t_lss rfl rfl ?_ rfl
    refine t_move rfl ?_ rfl
    refine t_partp (t := 20) rfl ?_ ?_
    · intro h1
      refine t_on rfl rfl ?_
      refine t_move rfl ?_ rfl
      refine t_on rfl rfl ?_
      refine t_len e_path (S.sl) rfl rfl ?_ rfl
      refine t_on rfl rfl ?_
      refine t_gtr rfl rfl ?_ rfl
      refine t_pickt rfl rfl ?_ rfl
      refine t_done ?_
      refine x_seq ?_
      refine w_if rfl ?_ ?_
      · intro h2
        obtain ⟨Gr, Cr, rfl⟩ := S.addr (by omega)
        rcases Nat.eq_zero_or_pos out.length with hO0 | hO0
        · skip
          refine w_skip ?_
          refine x_seq ?_
          refine w_block ?_
          refine w_seq ?_
          refine w_region ?_
          refine t_assign rfl ?_ rfl
          refine t_assign rfl ?_ rfl
          refine t_done ?_
          refine x_seq ?_
          refine w_seq ?_
          refine w_seq ?_
          refine w_region ?_
          refine t_move rfl ?_ rfl
          refine t_lenx e_path rfl rfl ?_ rfl
          refine t_move rfl ?_ rfl
          refine t_done ?_
          refine x_seq ?_
          refine w_block ?_
          refine w_loop (X := Nat × Nat × Int) (fun x wq => (fun i b0 least => i ≤ rest.length ∧ b0 = bestK rest out i ∧ (0 < i → ∃ px, rest[b0]? = some px ∧ least = (costP px out : Int)) ∧ Below w.heap.size w wq ∧ Sep w.heap.size wq [slO pathT 39 (.slice (some ⟨Gr, 0, none⟩) rest.length Cr) rest, slO pathT 39 u out]) x.1 x.2.1 x.2.2) (fun x => (fun i b0 least => [(27, I ((i : Int))), (7, I ((b0 : Int))), (8, I least), (5, (.slice (some ⟨Gr, 0, none⟩) rest.length Cr)), (6, u), (1, I n), (4, .slice none 0 0), (25, (.slice (some ⟨Gr, 0, none⟩) rest.length Cr)), (26, I ((rest.length : Int)))]) x.1 x.2.1 x.2.2) (fun x => (fun i b0 least => rest.length - i) x.1 x.2.1 x.2.2) (0, 0, 0) ?_ ⟨rfl, rfl, rfl, rfl, rfl, rfl, rfl, rfl, rfl, trivial⟩ ?_
          · exact ⟨by omega, rfl, fun h => absurd h (by omega), B, S⟩
          · rintro ⟨i, b0, least⟩ w35 hI
            try dsimp only at hI ⊢
            obtain ⟨hi, hb, hle, B, S⟩ := hI
            refine w_seq ?_
            refine w_region ?_
            refine t_lss rfl rfl ?_ rfl
            refine t_done ?_
            refine x_seq ?_
            refine w_seq ?_
            refine w_if rfl ?_ ?_
            · intro hlt
              obtain ⟨px, hx⟩ : ∃ e, rest[i]? = some e := getx (by omega)
              have hxm := List.mem_of_getElem? hx
              have hzx := sz_paths_mem hxm
              have hlx := hl px (hmr px hxm)
              have hgx := hg px (hmr px hxm)
              have hcx := costP_le (p := px) out (by omega)
              refine w_skip ?_
              refine x_seq ?_
              refine w_seq ?_
              refine w_block ?_
              refine w_seq ?_
              refine w_region ?_
              refine t_move rfl ?_ rfl
              refine t_idxx e_path (k := i) rfl rfl (by first | rfl | omega) (by omega) rfl ?_ rfl
              obtain ⟨cs31, S, hc31⟩ := S.split hx
              obtain ⟨u31, rfl, S⟩ := S.pathOpen
              refine t_ldn (cs := [u31]) ab_path sb_path (fun j z hz => hc31 _ _ _ rfl j z hz) (Below.refl _ _) rfl ?_ rfl
              refine t_alloc S z_path rfl ?_ rfl rfl
              intro g10 w36 x37 S
              have B := bx Hb B x37
              refine t_assign rfl ?_ rfl
              refine t_stn S sb_path rfl rfl rfl rfl (by intro zz hu; have hu : zz ∈ ([u31] : List Value) := hu; simp only [List.mem_cons, List.not_mem_nil, or_false] at hu; rcases hu with rfl <;> first | rfl | exact (SlR.cells (by first | assumption | exact S.tail.sl | exact S.tail.tail.sl | exact S.tail.tail.tail.sl | exact S.tail.tail.tail.tail.sl | exact S.tail.tail.tail.tail.tail.sl | exact S.tail.tail.tail.tail.tail.tail.sl | exact S.tail.tail.tail.tail.tail.tail.tail.sl | exact S.tail.tail.tail.tail.tail.tail.tail.tail.sl)).2) ?_
              intro w38 b39 S
              have B := B.trans b39
              refine t_done ?_
              refine x_seq ?_
              refine w_seq ?_
              refine w_region ?_
              refine t_assign rfl ?_ rfl
              refine t_done ?_
              refine x_seq ?_
              refine w_seq ?_
              refine w_seq ?_
              refine w_region ?_
              refine t_move rfl ?_ rfl
              refine t_len e_path (S.tail.tail.tail.sl) rfl rfl ?_ rfl
              refine t_move rfl ?_ rfl
              refine t_done ?_
              refine x_seq ?_
              refine w_block ?_
              refine w_loop (X := Nat × Int) (fun x wq => (fun j sum => j ≤ out.length ∧ sum = (costP px (out.take j) : Int) ∧ Below w.heap.size w wq ∧ Sep w.heap.size wq [bxO g10 39 #[u31], slO partT 90 u31 px, holeO pathT 39 (.slice (some ⟨Gr, 0, none⟩) rest.length Cr) rest i [u31], slO pathT 39 u out]) x.1 x.2) (fun x => (fun j sum => [(34, I ((j : Int))), (11, I sum), (27, I ((i : Int))), (7, I ((b0 : Int))), (8, I least), (5, (.slice (some ⟨Gr, 0, none⟩) rest.length Cr)), (6, u), (1, I n), (4, .slice none 0 0), (25, (.slice (some ⟨Gr, 0, none⟩) rest.length Cr)), (26, I ((rest.length : Int))), (10, .pointer (some ⟨g10, 0, none⟩)), (9, I ((i : Int))), (32, u), (33, I ((out.length : Int)))]) x.1 x.2) (fun x => (fun j sum => out.length - j) x.1 x.2) (0, 0) ?_ ⟨rfl, rfl, rfl, rfl, rfl, rfl, rfl, rfl, rfl, rfl, rfl, rfl, rfl, rfl, rfl, trivial⟩ ?_
              · exact ⟨by omega, rfl, B, S⟩
              · rintro ⟨j, sum⟩ w40 hI
                try dsimp only at hI ⊢
                obtain ⟨hj, hs, B, S⟩ := hI
                have hcj := costP_le (p := px) (out.take j) (by omega)
                rw [List.length_take] at hcj
                refine w_seq ?_
                refine w_region ?_
                refine t_lss rfl rfl ?_ rfl
                refine t_done ?_
                refine x_seq ?_
                refine w_seq ?_
                refine w_if rfl ?_ ?_
                · intro hlt2
                  exfalso
                  omega
                · intro hge2
                  rw [List.take_of_length_le (by omega)] at hs
                  refine w_exit ?_
                  refine x_then_exit ?_
                  refine x_then_exit ?_
                  refine x_block_exit ?_
                  refine x_seq ?_
                  refine w_seq ?_
                  refine w_region ?_
                  refine t_move rfl ?_ rfl
                  refine t_eql rfl rfl ?_ rfl
                  refine t_move rfl ?_ rfl
                  refine t_partp (t := 46) rfl ?_ ?_
                  · intro hi0
                    have hi1 : i = 0 := by omega
                    refine t_off rfl rfl rfl ?_ rfl
                    refine t_off rfl rfl rfl ?_ rfl
                    refine t_off rfl rfl rfl ?_ rfl
                    refine t_pickt rfl rfl ?_ rfl
                    refine t_done ?_
                    refine x_seq ?_
                    refine w_yes rfl ?_
                    refine w_region ?_
                    refine t_move rfl ?_ rfl
                    refine t_move rfl ?_ rfl
                    refine t_assign rfl ?_ rfl
                    refine t_assign rfl ?_ rfl
                    refine t_done ?_
                    refine x_block_normal ?_
                    refine x_seq ?_
                    refine w_region ?_
                    refine t_add rfl rfl (by omega) ?_ rfl
                    refine t_move rfl ?_ rfl
                    refine t_done ?_
                    have S := S.f2
                    have S := S.f2
                    have S := S.pathShut (x := px)
                    have S := S.join
                    rw [set_same hx] at S
                    have S := S.f1
                    have S := S.tail
                    refine x_round (X := Nat × Nat × Int) (I := (fun x wq => (fun i b0 least => i ≤ rest.length ∧ b0 = bestK rest out i ∧ (0 < i → ∃ px, rest[b0]? = some px ∧ least = (costP px out : Int)) ∧ Below w.heap.size w wq ∧ Sep w.heap.size wq [slO pathT 39 (.slice (some ⟨Gr, 0, none⟩) rest.length Cr) rest, slO pathT 39 u out]) x.1 x.2.1 x.2.2)) (F := (fun x => (fun i b0 least => [(27, I ((i : Int))), (7, I ((b0 : Int))), (8, I least), (5, (.slice (some ⟨Gr, 0, none⟩) rest.length Cr)), (6, u), (1, I n), (4, .slice none 0 0), (25, (.slice (some ⟨Gr, 0, none⟩) rest.length Cr)), (26, I ((rest.length : Int)))]) x.1 x.2.1 x.2.2)) (μ := (fun x => (fun i b0 least => rest.length - i) x.1 x.2.1 x.2.2)) (i + 1, i, sum) ?_ (by exact ⟨rfl, rfl, rfl, rfl, rfl, rfl, rfl, rfl, rfl, trivial⟩) (by (try dsimp only); omega)
                    try dsimp only
                    exact ⟨by omega, by rw [hi1]; exact (bestK_one _ _).symm, fun _ => ⟨px, hx, hs⟩, B, S⟩
                  · intro hi0
                    obtain ⟨y0, hy0, hl0⟩ := hle (by omega)
                    refine t_on rfl rfl ?_
                    refine t_move rfl ?_ rfl
                    refine t_on rfl rfl ?_
                    refine t_move rfl ?_ rfl
                    refine t_on rfl rfl ?_
                    refine t_lss rfl rfl ?_ rfl
                    refine t_pickf rfl rfl ?_ rfl
                    refine t_done ?_
                    refine x_seq ?_
                    refine w_if rfl ?_ ?_
                    · intro hc
                      refine w_region ?_
                      refine t_move rfl ?_ rfl
                      refine t_move rfl ?_ rfl
                      refine t_assign rfl ?_ rfl
                      refine t_assign rfl ?_ rfl
                      refine t_done ?_
                      refine x_block_normal ?_
                      refine x_seq ?_
                      refine w_region ?_
                      refine t_add rfl rfl (by omega) ?_ rfl
                      refine t_move rfl ?_ rfl
                      refine t_done ?_
                      have S := S.f2
                      have S := S.f2
                      have S := S.pathShut (x := px)
                      have S := S.join
                      rw [set_same hx] at S
                      have S := S.f1
                      have S := S.tail
                      refine x_round (X := Nat × Nat × Int) (I := (fun x wq => (fun i b0 least => i ≤ rest.length ∧ b0 = bestK rest out i ∧ (0 < i → ∃ px, rest[b0]? = some px ∧ least = (costP px out : Int)) ∧ Below w.heap.size w wq ∧ Sep w.heap.size wq [slO pathT 39 (.slice (some ⟨Gr, 0, none⟩) rest.length Cr) rest, slO pathT 39 u out]) x.1 x.2.1 x.2.2)) (F := (fun x => (fun i b0 least => [(27, I ((i : Int))), (7, I ((b0 : Int))), (8, I least), (5, (.slice (some ⟨Gr, 0, none⟩) rest.length Cr)), (6, u), (1, I n), (4, .slice none 0 0), (25, (.slice (some ⟨Gr, 0, none⟩) rest.length Cr)), (26, I ((rest.length : Int)))]) x.1 x.2.1 x.2.2)) (μ := (fun x => (fun i b0 least => rest.length - i) x.1 x.2.1 x.2.2)) (i + 1, i, sum) ?_ (by exact ⟨rfl, rfl, rfl, rfl, rfl, rfl, rfl, rfl, rfl, trivial⟩) (by (try dsimp only); omega)
                      try dsimp only
                      exact ⟨by omega, (bestK_yes hx (by rw [← hb]; exact hy0) (by omega)).symm, fun _ => ⟨px, hx, hs⟩, B, S⟩
                    · intro hc
                      refine w_skip ?_
                      refine x_block_normal ?_
                      refine x_seq ?_
                      refine w_region ?_
                      refine t_add rfl rfl (by omega) ?_ rfl
                      refine t_move rfl ?_ rfl
                      refine t_done ?_
                      have S := S.f2
                      have S := S.f2
                      have S := S.pathShut (x := px)
                      have S := S.join
                      rw [set_same hx] at S
                      have S := S.f1
                      have S := S.tail
                      refine x_round (X := Nat × Nat × Int) (I := (fun x wq => (fun i b0 least => i ≤ rest.length ∧ b0 = bestK rest out i ∧ (0 < i → ∃ px, rest[b0]? = some px ∧ least = (costP px out : Int)) ∧ Below w.heap.size w wq ∧ Sep w.heap.size wq [slO pathT 39 (.slice (some ⟨Gr, 0, none⟩) rest.length Cr) rest, slO pathT 39 u out]) x.1 x.2.1 x.2.2)) (F := (fun x => (fun i b0 least => [(27, I ((i : Int))), (7, I ((b0 : Int))), (8, I least), (5, (.slice (some ⟨Gr, 0, none⟩) rest.length Cr)), (6, u), (1, I n), (4, .slice none 0 0), (25, (.slice (some ⟨Gr, 0, none⟩) rest.length Cr)), (26, I ((rest.length : Int)))]) x.1 x.2.1 x.2.2)) (μ := (fun x => (fun i b0 least => rest.length - i) x.1 x.2.1 x.2.2)) (i + 1, b0, least) ?_ (by exact ⟨rfl, rfl, rfl, rfl, rfl, rfl, rfl, rfl, rfl, trivial⟩) (by (try dsimp only); omega)
                      try dsimp only
                      exact ⟨by omega, by rw [bestK_no hx (by rw [← hb]; exact hy0) (by omega)]; exact hb, fun _ => ⟨y0, hy0, hl0⟩, B, S⟩
            · intro hge
              have hil : i = rest.length := by omega
              have hbl := bestK_lt rest out i (by omega) (by omega)
              rw [← hb] at hbl
              rw [hil] at hb
              obtain ⟨px, hx⟩ : ∃ e, rest[b0]? = some e := getx (by omega)
              have hst := disjL_step (n := n) (f := (rest.take b0 ++ rest.drop (b0 + 1)).length) (rest := rest) (out := out) (x := px) (by omega) (by rw [← hb]; exact hx)
              rw [len_cut_one hx, ← hb, hq] at hst
              have hsc := sz_cut_one hx
              have hlc : (([] ++ rest.take b0) ++ rest.drop (b0 + 1)).length + 1 = rest.length := len_cut_one hx
              refine w_exit ?_
              refine x_then_exit ?_
              refine x_then_exit ?_
              refine x_block_exit ?_
              refine x_seq ?_
              refine w_seq ?_
              refine w_region ?_
              refine t_move rfl ?_ rfl
              refine t_move rfl ?_ rfl
              refine t_move rfl ?_ rfl
              refine t_idxx e_path (k := b0) rfl rfl (by first | rfl | omega) (by omega) rfl ?_ rfl
              obtain ⟨cs58, S, hc58⟩ := S.split hx
              obtain ⟨u58, rfl, S⟩ := S.pathOpen
              refine t_ldn (cs := [u58]) ab_path sb_path (fun j z hz => hc58 _ _ _ rfl j z hz) (Below.refl _ _) rfl ?_ rfl
              have S := S.f1
              obtain ⟨cssR, hlR, haR, S⟩ := S.holeOut
              have hnR := S.tail.tail.rowLen
              refine t_lit1 (fun w => bs_path1 _ w) rfl ?_ rfl rfl
              intro A59 w41 x42 hA59
              have B := bx Hb B x42
              have S := S.below x42
              have S := S.f3
              have S := S.pathShut (x := px)
              have S := S.f4
              refine t_snoc e_path S hA59 rfl rfl rfl (by first | omega | (simp; done) | (simp; omega)) (by (simp only [maxLen]); first | omega | (simp; done) | (simp; omega)) ?_ rfl
              intro v60 w43 x44 S
              have B := B.trans x44
              refine t_assign rfl ?_ rfl
              refine t_done ?_
              refine x_seq ?_
              refine w_drawP [1, 2, 3, 5, 6, 7, 8] (.st .run 0 (.st .run 4 (.st .fin 9 (.st .fin 10 .done)))) mixed (by kernel_rfl) ?_
              intro w45 x46
              have B := bx Hb B x46
              have S := S.below x46
              refine p_move rfl ?_ rfl
              refine p_move rfl ?_ rfl
              refine p_sltv e_path (k := b0) rfl rfl (by first | rfl | omega) (by omega) ?_ rfl
              refine p_move rfl ?_ rfl
              refine p_move rfl ?_ rfl
              refine p_add rfl rfl (by omega) ?_ rfl
              refine p_sldv e_path (k := (b0 + 1)) rfl rfl (by first | rfl | omega) (by omega) (by omega) ?_ rfl
              refine p_done ?_
              refine t_lit0 (T := pathT) S bs_path0 rfl ?_ rfl rfl
              intro A61 w47 x48 S
              have B := bx Hb B x48
              have S := S.f2
              have S := S.f1
              refine t_mv0 e_path S (S.tail.tail.tail.tail.rowTake haR b0) (by first | (simp; done) | (simp; omega)) rfl rfl rfl (by first | omega | (simp; done) | (simp; omega)) (by first | (simp [maxLen]; done) | (simp [maxLen]; omega)) ?_ rfl
              intro v65 w49 x50 S
              have B := bx Hb B x50
              have S := S.f2
              have S := S.f1
              refine t_mv e_path S (S.tail.tail.tail.rowDrop haR (b0 + 1)) (by first | (simp; done) | (simp; omega)) rfl rfl rfl (by first | omega | (simp; done) | (simp; omega)) (by first | (simp [maxLen]; done) | (simp [maxLen]; omega)) ?_ rfl
              intro v70 w51 x52 S
              have B := B.trans x52
              refine t_assign rfl ?_ rfl
              refine t_done' ?_
              refine x_block_normal ?_
              have S := S.f2
              have S := S.tail
              refine x_round (X := List Path × List Path × Value × Value) (I := (fun x wq => (fun rest out r u => disjL n rest.length rest out = disj l n ∧ sz_paths rest + sz_paths out ≤ sz_paths l ∧ (∀ x ∈ rest, x ∈ l) ∧ (∀ x ∈ out, x ∈ l) ∧ Below w.heap.size w wq ∧ Sep w.heap.size wq [slO pathT 39 r rest, slO pathT 39 u out]) x.1 x.2.1 x.2.2.1 x.2.2.2)) (F := (fun x => (fun rest out r u => [(5, r), (6, u), (1, I n), (4, .slice none 0 0)]) x.1 x.2.1 x.2.2.1 x.2.2.2)) (μ := (fun x => (fun rest out r u => rest.length) x.1 x.2.1 x.2.2.1 x.2.2.2)) (([] ++ rest.take b0) ++ rest.drop (b0 + 1), out ++ [px], v70, v60) ?_ (by exact ⟨rfl, rfl, rfl, rfl, trivial⟩) (by (try dsimp only); omega)
              try dsimp only
              rw [List.nil_append] at S ⊢
              refine ⟨hst.symm, by rw [sz_paths_app out, sz_paths_one]; omega, fun y hy => hmr y (mem_cut_one hy), fun y hy => ?_, B, S⟩
              rcases List.mem_append.1 hy with hy | hy
              · exact hmo y hy
              · rw [List.mem_singleton] at hy
                rw [hy]
                exact hmr px (List.mem_of_getElem? hx)
        · have S := S.f1
          obtain ⟨Gu, Cu, rfl⟩ := S.addr (by omega)
          refine w_skip ?_
          refine x_seq ?_
          refine w_block ?_
          refine w_seq ?_
          refine w_region ?_
          refine t_assign rfl ?_ rfl
          refine t_assign rfl ?_ rfl
          refine t_done ?_
          refine x_seq ?_
          refine w_seq ?_
          refine w_seq ?_
          refine w_region ?_
          refine t_move rfl ?_ rfl
          refine t_lenx e_path rfl rfl ?_ rfl
          refine t_move rfl ?_ rfl
          refine t_done ?_
          refine x_seq ?_
          refine w_block ?_
          refine w_loop (X := Nat × Nat × Int) (fun x wq => (fun i b0 least => i ≤ rest.length ∧ b0 = bestK rest out i ∧ (0 < i → ∃ px, rest[b0]? = some px ∧ least = (costP px out : Int)) ∧ Below w.heap.size w wq ∧ Sep w.heap.size wq [slO pathT 39 (.slice (some ⟨Gr, 0, none⟩) rest.length Cr) rest, slO pathT 39 (.slice (some ⟨Gu, 0, none⟩) out.length Cu) out]) x.1 x.2.1 x.2.2) (fun x => (fun i b0 least => [(27, I ((i : Int))), (7, I ((b0 : Int))), (8, I least), (5, (.slice (some ⟨Gr, 0, none⟩) rest.length Cr)), (6, (.slice (some ⟨Gu, 0, none⟩) out.length Cu)), (1, I n), (4, .slice none 0 0), (25, (.slice (some ⟨Gr, 0, none⟩) rest.length Cr)), (26, I ((rest.length : Int)))]) x.1 x.2.1 x.2.2) (fun x => (fun i b0 least => rest.length - i) x.1 x.2.1 x.2.2) (0, 0, 0) ?_ ⟨rfl, rfl, rfl, rfl, rfl, rfl, rfl, rfl, rfl, trivial⟩ ?_
          · exact ⟨by omega, rfl, fun h => absurd h (by omega), B, S.f1⟩
          · rintro ⟨i, b0, least⟩ w53 hI
            try dsimp only at hI ⊢
            obtain ⟨hi, hb, hle, B, S⟩ := hI
            refine w_seq ?_
            refine w_region ?_
            refine t_lss rfl rfl ?_ rfl
            refine t_done ?_
            refine x_seq ?_
            refine w_seq ?_
            refine w_if rfl ?_ ?_
            · intro hlt
              obtain ⟨px, hx⟩ : ∃ e, rest[i]? = some e := getx (by omega)
              have hxm := List.mem_of_getElem? hx
              have hzx := sz_paths_mem hxm
              have hlx := hl px (hmr px hxm)
              have hgx := hg px (hmr px hxm)
              have hcx := costP_le (p := px) out (by omega)
              refine w_skip ?_
              refine x_seq ?_
              refine w_seq ?_
              refine w_block ?_
              refine w_seq ?_
              refine w_region ?_
              refine t_move rfl ?_ rfl
              refine t_idxx e_path (k := i) rfl rfl (by first | rfl | omega) (by omega) rfl ?_ rfl
              obtain ⟨cs31, S, hc31⟩ := S.split hx
              obtain ⟨u31, rfl, S⟩ := S.pathOpen
              refine t_ldn (cs := [u31]) ab_path sb_path (fun j z hz => hc31 _ _ _ rfl j z hz) (Below.refl _ _) rfl ?_ rfl
              refine t_alloc S z_path rfl ?_ rfl rfl
              intro g10 w54 x55 S
              have B := bx Hb B x55
              refine t_assign rfl ?_ rfl
              refine t_stn S sb_path rfl rfl rfl rfl (by intro zz hu; have hu : zz ∈ ([u31] : List Value) := hu; simp only [List.mem_cons, List.not_mem_nil, or_false] at hu; rcases hu with rfl <;> first | rfl | exact (SlR.cells (by first | assumption | exact S.tail.sl | exact S.tail.tail.sl | exact S.tail.tail.tail.sl | exact S.tail.tail.tail.tail.sl | exact S.tail.tail.tail.tail.tail.sl | exact S.tail.tail.tail.tail.tail.tail.sl | exact S.tail.tail.tail.tail.tail.tail.tail.sl | exact S.tail.tail.tail.tail.tail.tail.tail.tail.sl)).2) ?_
              intro w56 b57 S
              have B := B.trans b57
              refine t_done ?_
              refine x_seq ?_
              refine w_seq ?_
              refine w_region ?_
              refine t_assign rfl ?_ rfl
              refine t_done ?_
              refine x_seq ?_
              refine w_seq ?_
              refine w_seq ?_
              refine w_region ?_
              refine t_move rfl ?_ rfl
              refine t_lenx e_path rfl rfl ?_ rfl
              refine t_move rfl ?_ rfl
              refine t_done ?_
              refine x_seq ?_
              refine w_block ?_
              refine w_loop (X := Nat × Int) (fun x wq => (fun j sum => j ≤ out.length ∧ sum = (costP px (out.take j) : Int) ∧ Below w.heap.size w wq ∧ Sep w.heap.size wq [bxO g10 39 #[u31], slO partT 90 u31 px, holeO pathT 39 (.slice (some ⟨Gr, 0, none⟩) rest.length Cr) rest i [u31], slO pathT 39 (.slice (some ⟨Gu, 0, none⟩) out.length Cu) out]) x.1 x.2) (fun x => (fun j sum => [(34, I ((j : Int))), (11, I sum), (27, I ((i : Int))), (7, I ((b0 : Int))), (8, I least), (5, (.slice (some ⟨Gr, 0, none⟩) rest.length Cr)), (6, (.slice (some ⟨Gu, 0, none⟩) out.length Cu)), (1, I n), (4, .slice none 0 0), (25, (.slice (some ⟨Gr, 0, none⟩) rest.length Cr)), (26, I ((rest.length : Int))), (10, .pointer (some ⟨g10, 0, none⟩)), (9, I ((i : Int))), (32, (.slice (some ⟨Gu, 0, none⟩) out.length Cu)), (33, I ((out.length : Int)))]) x.1 x.2) (fun x => (fun j sum => out.length - j) x.1 x.2) (0, 0) ?_ ⟨rfl, rfl, rfl, rfl, rfl, rfl, rfl, rfl, rfl, rfl, rfl, rfl, rfl, rfl, rfl, trivial⟩ ?_
              · exact ⟨by omega, rfl, B, S⟩
              · rintro ⟨j, sum⟩ w58 hI
                try dsimp only at hI ⊢
                obtain ⟨hj, hs, B, S⟩ := hI
                have hcj := costP_le (p := px) (out.take j) (by omega)
                rw [List.length_take] at hcj
                refine w_seq ?_
                refine w_region ?_
                refine t_lss rfl rfl ?_ rfl
                refine t_done ?_
                refine x_seq ?_
                refine w_seq ?_
                refine w_if rfl ?_ ?_
                · intro hlt2
                  obtain ⟨y, hy⟩ : ∃ e, out[j]? = some e := getx (by omega)
                  have hym := List.mem_of_getElem? hy
                  have hzy := sz_paths_mem hym
                  have hly := hlo y hym
                  have hgy := hgo y hym
                  have hsx := sharedP_le (p := px) y (by omega)
                  refine w_skip ?_
                  refine x_seq ?_
                  refine w_seq ?_
                  refine w_block ?_
                  refine w_seq ?_
                  refine w_region ?_
                  refine t_idxx e_path (k := j) rfl rfl (by first | rfl | omega) (by omega) rfl ?_ rfl
                  have S := S.f3
                  obtain ⟨cs37, S, hc37⟩ := S.split hy
                  obtain ⟨u37, rfl, S⟩ := S.pathOpen
                  refine t_ldn (cs := [u37]) ab_path sb_path (fun j z hz => hc37 _ _ _ rfl j z hz) (Below.refl _ _) rfl ?_ rfl
                  refine t_alloc S z_path rfl ?_ rfl rfl
                  intro g13 w59 x60 S
                  have B := bx Hb B x60
                  refine t_stn S sb_path rfl rfl rfl rfl (by intro zz hu; have hu : zz ∈ ([u37] : List Value) := hu; simp only [List.mem_cons, List.not_mem_nil, or_false] at hu; rcases hu with rfl <;> first | rfl | exact (SlR.cells (by first | assumption | exact S.tail.sl | exact S.tail.tail.sl | exact S.tail.tail.tail.sl | exact S.tail.tail.tail.tail.sl | exact S.tail.tail.tail.tail.tail.sl | exact S.tail.tail.tail.tail.tail.tail.sl | exact S.tail.tail.tail.tail.tail.tail.tail.sl | exact S.tail.tail.tail.tail.tail.tail.tail.tail.sl)).2) ?_
                  intro w61 b62 S
                  have B := B.trans b62
                  refine t_done ?_
                  refine x_seq ?_
                  refine w_region ?_
                  refine t_move rfl ?_ rfl
                  refine t_bxn S.tail.tail.tail.box ab_path sb_path rfl rfl ?_ rfl
                  refine t_bxn S.box ab_path sb_path rfl rfl ?_ rfl
                  refine t_callx Try.call119 rfl (impl_SharedP _ _ _ _ _ (path_mkv (S.tail.tail.tail.tail.sl)) (path_mkv (S.tail.sl)) (by omega) (by assumption) (by assumption) (by omega) (by assumption) (by assumption)) ?_ rfl rfl
                  intro w63 x64
                  have B := bx Hb B x64
                  have S := S.below x64
                  refine t_add rfl rfl (by omega) ?_ rfl
                  refine t_assign rfl ?_ rfl
                  refine t_done ?_
                  refine x_block_normal ?_
                  refine x_seq ?_
                  refine w_region ?_
                  refine t_add rfl rfl (by omega) ?_ rfl
                  refine t_move rfl ?_ rfl
                  refine t_done ?_
                  have S := S.f2
                  have S := S.f2
                  have S := S.pathShut (x := y)
                  have S := S.join
                  rw [set_same hy] at S
                  have S := S.f1
                  have S := S.tail
                  refine x_round (X := Nat × Int) (I := (fun x wq => (fun j sum => j ≤ out.length ∧ sum = (costP px (out.take j) : Int) ∧ Below w.heap.size w wq ∧ Sep w.heap.size wq [bxO g10 39 #[u31], slO partT 90 u31 px, holeO pathT 39 (.slice (some ⟨Gr, 0, none⟩) rest.length Cr) rest i [u31], slO pathT 39 (.slice (some ⟨Gu, 0, none⟩) out.length Cu) out]) x.1 x.2)) (F := (fun x => (fun j sum => [(34, I ((j : Int))), (11, I sum), (27, I ((i : Int))), (7, I ((b0 : Int))), (8, I least), (5, (.slice (some ⟨Gr, 0, none⟩) rest.length Cr)), (6, (.slice (some ⟨Gu, 0, none⟩) out.length Cu)), (1, I n), (4, .slice none 0 0), (25, (.slice (some ⟨Gr, 0, none⟩) rest.length Cr)), (26, I ((rest.length : Int))), (10, .pointer (some ⟨g10, 0, none⟩)), (9, I ((i : Int))), (32, (.slice (some ⟨Gu, 0, none⟩) out.length Cu)), (33, I ((out.length : Int)))]) x.1 x.2)) (μ := (fun x => (fun j sum => out.length - j) x.1 x.2)) (j + 1, sum + (sharedP px y : Int)) ?_ (by exact ⟨rfl, rfl, rfl, rfl, rfl, rfl, rfl, rfl, rfl, rfl, rfl, rfl, rfl, rfl, rfl, trivial⟩) (by (try dsimp only); omega)
                  try dsimp only
                  exact ⟨by omega, by rw [costP_succ hy, hs]; omega, B, S.f3.f3.f3⟩
                · intro hge2
                  rw [List.take_of_length_le (by omega)] at hs
                  refine w_exit ?_
                  refine x_then_exit ?_
                  refine x_then_exit ?_
                  refine x_block_exit ?_
                  refine x_seq ?_
                  refine w_seq ?_
                  refine w_region ?_
                  refine t_move rfl ?_ rfl
                  refine t_eql rfl rfl ?_ rfl
                  refine t_move rfl ?_ rfl
                  refine t_partp (t := 46) rfl ?_ ?_
                  · intro hi0
                    have hi1 : i = 0 := by omega
                    refine t_off rfl rfl rfl ?_ rfl
                    refine t_off rfl rfl rfl ?_ rfl
                    refine t_off rfl rfl rfl ?_ rfl
                    refine t_pickt rfl rfl ?_ rfl
                    refine t_done ?_
                    refine x_seq ?_
                    refine w_yes rfl ?_
                    refine w_region ?_
                    refine t_move rfl ?_ rfl
                    refine t_move rfl ?_ rfl
                    refine t_assign rfl ?_ rfl
                    refine t_assign rfl ?_ rfl
                    refine t_done ?_
                    refine x_block_normal ?_
                    refine x_seq ?_
                    refine w_region ?_
                    refine t_add rfl rfl (by omega) ?_ rfl
                    refine t_move rfl ?_ rfl
                    refine t_done ?_
                    have S := S.f2
                    have S := S.f2
                    have S := S.pathShut (x := px)
                    have S := S.join
                    rw [set_same hx] at S
                    have S := S.f1
                    have S := S.tail
                    refine x_round (X := Nat × Nat × Int) (I := (fun x wq => (fun i b0 least => i ≤ rest.length ∧ b0 = bestK rest out i ∧ (0 < i → ∃ px, rest[b0]? = some px ∧ least = (costP px out : Int)) ∧ Below w.heap.size w wq ∧ Sep w.heap.size wq [slO pathT 39 (.slice (some ⟨Gr, 0, none⟩) rest.length Cr) rest, slO pathT 39 (.slice (some ⟨Gu, 0, none⟩) out.length Cu) out]) x.1 x.2.1 x.2.2)) (F := (fun x => (fun i b0 least => [(27, I ((i : Int))), (7, I ((b0 : Int))), (8, I least), (5, (.slice (some ⟨Gr, 0, none⟩) rest.length Cr)), (6, (.slice (some ⟨Gu, 0, none⟩) out.length Cu)), (1, I n), (4, .slice none 0 0), (25, (.slice (some ⟨Gr, 0, none⟩) rest.length Cr)), (26, I ((rest.length : Int)))]) x.1 x.2.1 x.2.2)) (μ := (fun x => (fun i b0 least => rest.length - i) x.1 x.2.1 x.2.2)) (i + 1, i, sum) ?_ (by exact ⟨rfl, rfl, rfl, rfl, rfl, rfl, rfl, rfl, rfl, trivial⟩) (by (try dsimp only); omega)
                    try dsimp only
                    exact ⟨by omega, by rw [hi1]; exact (bestK_one _ _).symm, fun _ => ⟨px, hx, hs⟩, B, S⟩
                  · intro hi0
                    obtain ⟨y0, hy0, hl0⟩ := hle (by omega)
                    refine t_on rfl rfl ?_
                    refine t_move rfl ?_ rfl
                    refine t_on rfl rfl ?_
                    refine t_move rfl ?_ rfl
                    refine t_on rfl rfl ?_
                    refine t_lss rfl rfl ?_ rfl
                    refine t_pickf rfl rfl ?_ rfl
                    refine t_done ?_
                    refine x_seq ?_
                    refine w_if rfl ?_ ?_
                    · intro hc
                      refine w_region ?_
                      refine t_move rfl ?_ rfl
                      refine t_move rfl ?_ rfl
                      refine t_assign rfl ?_ rfl
                      refine t_assign rfl ?_ rfl
                      refine t_done ?_
                      refine x_block_normal ?_
                      refine x_seq ?_
                      refine w_region ?_
                      refine t_add rfl rfl (by omega) ?_ rfl
                      refine t_move rfl ?_ rfl
                      refine t_done ?_
                      have S := S.f2
                      have S := S.f2
                      have S := S.pathShut (x := px)
                      have S := S.join
                      rw [set_same hx] at S
                      have S := S.f1
                      have S := S.tail
                      refine x_round (X := Nat × Nat × Int) (I := (fun x wq => (fun i b0 least => i ≤ rest.length ∧ b0 = bestK rest out i ∧ (0 < i → ∃ px, rest[b0]? = some px ∧ least = (costP px out : Int)) ∧ Below w.heap.size w wq ∧ Sep w.heap.size wq [slO pathT 39 (.slice (some ⟨Gr, 0, none⟩) rest.length Cr) rest, slO pathT 39 (.slice (some ⟨Gu, 0, none⟩) out.length Cu) out]) x.1 x.2.1 x.2.2)) (F := (fun x => (fun i b0 least => [(27, I ((i : Int))), (7, I ((b0 : Int))), (8, I least), (5, (.slice (some ⟨Gr, 0, none⟩) rest.length Cr)), (6, (.slice (some ⟨Gu, 0, none⟩) out.length Cu)), (1, I n), (4, .slice none 0 0), (25, (.slice (some ⟨Gr, 0, none⟩) rest.length Cr)), (26, I ((rest.length : Int)))]) x.1 x.2.1 x.2.2)) (μ := (fun x => (fun i b0 least => rest.length - i) x.1 x.2.1 x.2.2)) (i + 1, i, sum) ?_ (by exact ⟨rfl, rfl, rfl, rfl, rfl, rfl, rfl, rfl, rfl, trivial⟩) (by (try dsimp only); omega)
                      try dsimp only
                      exact ⟨by omega, (bestK_yes hx (by rw [← hb]; exact hy0) (by omega)).symm, fun _ => ⟨px, hx, hs⟩, B, S⟩
                    · intro hc
                      refine w_skip ?_
                      refine x_block_normal ?_
                      refine x_seq ?_
                      refine w_region ?_
                      refine t_add rfl rfl (by omega) ?_ rfl
                      refine t_move rfl ?_ rfl
                      refine t_done ?_
                      have S := S.f2
                      have S := S.f2
                      have S := S.pathShut (x := px)
                      have S := S.join
                      rw [set_same hx] at S
                      have S := S.f1
                      have S := S.tail
                      refine x_round (X := Nat × Nat × Int) (I := (fun x wq => (fun i b0 least => i ≤ rest.length ∧ b0 = bestK rest out i ∧ (0 < i → ∃ px, rest[b0]? = some px ∧ least = (costP px out : Int)) ∧ Below w.heap.size w wq ∧ Sep w.heap.size wq [slO pathT 39 (.slice (some ⟨Gr, 0, none⟩) rest.length Cr) rest, slO pathT 39 (.slice (some ⟨Gu, 0, none⟩) out.length Cu) out]) x.1 x.2.1 x.2.2)) (F := (fun x => (fun i b0 least => [(27, I ((i : Int))), (7, I ((b0 : Int))), (8, I least), (5, (.slice (some ⟨Gr, 0, none⟩) rest.length Cr)), (6, (.slice (some ⟨Gu, 0, none⟩) out.length Cu)), (1, I n), (4, .slice none 0 0), (25, (.slice (some ⟨Gr, 0, none⟩) rest.length Cr)), (26, I ((rest.length : Int)))]) x.1 x.2.1 x.2.2)) (μ := (fun x => (fun i b0 least => rest.length - i) x.1 x.2.1 x.2.2)) (i + 1, b0, least) ?_ (by exact ⟨rfl, rfl, rfl, rfl, rfl, rfl, rfl, rfl, rfl, trivial⟩) (by (try dsimp only); omega)
                      try dsimp only
                      exact ⟨by omega, by rw [bestK_no hx (by rw [← hb]; exact hy0) (by omega)]; exact hb, fun _ => ⟨y0, hy0, hl0⟩, B, S⟩
            · intro hge
              have hil : i = rest.length := by omega
              have hbl := bestK_lt rest out i (by omega) (by omega)
              rw [← hb] at hbl
              rw [hil] at hb
              obtain ⟨px, hx⟩ : ∃ e, rest[b0]? = some e := getx (by omega)
              have hst := disjL_step (n := n) (f := (rest.take b0 ++ rest.drop (b0 + 1)).length) (rest := rest) (out := out) (x := px) (by omega) (by rw [← hb]; exact hx)
              rw [len_cut_one hx, ← hb, hq] at hst
              have hsc := sz_cut_one hx
              have hlc : (([] ++ rest.take b0) ++ rest.drop (b0 + 1)).length + 1 = rest.length := len_cut_one hx
              refine w_exit ?_
              refine x_then_exit ?_
              refine x_then_exit ?_
              refine x_block_exit ?_
              refine x_seq ?_
              refine w_seq ?_
              refine w_region ?_
              refine t_move rfl ?_ rfl
              refine t_move rfl ?_ rfl
              refine t_move rfl ?_ rfl
              refine t_idxx e_path (k := b0) rfl rfl (by first | rfl | omega) (by omega) rfl ?_ rfl
              obtain ⟨cs58, S, hc58⟩ := S.split hx
              obtain ⟨u58, rfl, S⟩ := S.pathOpen
              refine t_ldn (cs := [u58]) ab_path sb_path (fun j z hz => hc58 _ _ _ rfl j z hz) (Below.refl _ _) rfl ?_ rfl
              have S := S.f1
              obtain ⟨cssR, hlR, haR, S⟩ := S.holeOut
              have hnR := S.tail.tail.rowLen
              refine t_lit1 (fun w => bs_path1 _ w) rfl ?_ rfl rfl
              intro A59 w65 x66 hA59
              have B := bx Hb B x66
              have S := S.below x66
              have S := S.f3
              have S := S.pathShut (x := px)
              have S := S.f4
              refine t_snoc e_path S hA59 rfl rfl rfl (by first | omega | (simp; done) | (simp; omega)) (by (simp only [maxLen]); first | omega | (simp; done) | (simp; omega)) ?_ rfl
              intro v60 w67 x68 S
              have B := B.trans x68
              refine t_assign rfl ?_ rfl
              refine t_done ?_
              refine x_seq ?_
              refine w_drawP [1, 2, 3, 5, 6, 7, 8] (.st .run 0 (.st .run 4 (.st .fin 9 (.st .fin 10 .done)))) mixed (by kernel_rfl) ?_
              intro w69 x70
              have B := bx Hb B x70
              have S := S.below x70
              refine p_move rfl ?_ rfl
              refine p_move rfl ?_ rfl
              refine p_sltv e_path (k := b0) rfl rfl (by first | rfl | omega) (by omega) ?_ rfl
              refine p_move rfl ?_ rfl
              refine p_move rfl ?_ rfl
              refine p_add rfl rfl (by omega) ?_ rfl
              refine p_sldv e_path (k := (b0 + 1)) rfl rfl (by first | rfl | omega) (by omega) (by omega) ?_ rfl
              refine p_done ?_
              refine t_lit0 (T := pathT) S bs_path0 rfl ?_ rfl rfl
              intro A61 w71 x72 S
              have B := bx Hb B x72
              have S := S.f2
              have S := S.f1
              refine t_mv0 e_path S (S.tail.tail.tail.tail.rowTake haR b0) (by first | (simp; done) | (simp; omega)) rfl rfl rfl (by first | omega | (simp; done) | (simp; omega)) (by first | (simp [maxLen]; done) | (simp [maxLen]; omega)) ?_ rfl
              intro v65 w73 x74 S
              have B := bx Hb B x74
              have S := S.f2
              have S := S.f1
              refine t_mv e_path S (S.tail.tail.tail.rowDrop haR (b0 + 1)) (by first | (simp; done) | (simp; omega)) rfl rfl rfl (by first | omega | (simp; done) | (simp; omega)) (by first | (simp [maxLen]; done) | (simp [maxLen]; omega)) ?_ rfl
              intro v70 w75 x76 S
              have B := B.trans x76
              refine t_assign rfl ?_ rfl
              refine t_done' ?_
              refine x_block_normal ?_
              have S := S.f2
              have S := S.tail
              refine x_round (X := List Path × List Path × Value × Value) (I := (fun x wq => (fun rest out r u => disjL n rest.length rest out = disj l n ∧ sz_paths rest + sz_paths out ≤ sz_paths l ∧ (∀ x ∈ rest, x ∈ l) ∧ (∀ x ∈ out, x ∈ l) ∧ Below w.heap.size w wq ∧ Sep w.heap.size wq [slO pathT 39 r rest, slO pathT 39 u out]) x.1 x.2.1 x.2.2.1 x.2.2.2)) (F := (fun x => (fun rest out r u => [(5, r), (6, u), (1, I n), (4, .slice none 0 0)]) x.1 x.2.1 x.2.2.1 x.2.2.2)) (μ := (fun x => (fun rest out r u => rest.length) x.1 x.2.1 x.2.2.1 x.2.2.2)) (([] ++ rest.take b0) ++ rest.drop (b0 + 1), out ++ [px], v70, v60) ?_ (by exact ⟨rfl, rfl, rfl, rfl, trivial⟩) (by (try dsimp only); omega)
              try dsimp only
              rw [List.nil_append] at S ⊢
              refine ⟨hst.symm, by rw [sz_paths_app out, sz_paths_one]; omega, fun y hy => hmr y (mem_cut_one hy), fun y hy => ?_, B, S⟩
              rcases List.mem_append.1 hy with hy | hy
              · exact hmo y hy
              · rw [List.mem_singleton] at hy
                rw [hy]
                exact hmr px (List.mem_of_getElem? hx)
      · intro h2
        refine w_exit ?_
        refine x_then_exit ?_
        refine x_then_exit ?_
        refine x_block_exit ?_
        refine x_seq ?_
        refine w_seq ?_
        refine w_region ?_
        refine t_move rfl ?_ rfl
        refine t_assign rfl ?_ rfl
        refine t_done ?_
        refine x_seq ?_
        refine w_ret ?_
        refine x_ret1 rfl rfl ?_
        have : rest.length = 0 := by omega
        rw [this] at hq
        have e : disj l n = out := by rw [← hq]; rfl
        rw [e]
        obtain ⟨fp, hO⟩ := (S.f1.mono X0.size).head
        exact ⟨_, fp, rfl, hO, ext_trans X0 B⟩
    · intro h1
      refine t_off rfl rfl rfl ?_ rfl
      refine t_off rfl rfl rfl ?_ rfl
      refine t_off rfl rfl rfl ?_ rfl
      refine t_pickf rfl rfl ?_ rfl
      refine t_done ?_
      refine x_seq ?_
      refine w_no rfl ?_
      refine w_exit ?_
      refine x_then_exit ?_
      refine x_then_exit ?_
      refine x_block_exit ?_
      refine x_seq ?_
      refine w_seq ?_
      refine w_region ?_
      refine t_move rfl ?_ rfl
      refine t_assign rfl ?_ rfl
      refine t_done ?_
      refine x_seq ?_
      refine w_ret ?_
      refine x_ret1 rfl rfl ?_
      rw [disjL_full h1] at hq
      rw [← hq]
      obtain ⟨fp, hO⟩ := (S.f1.mono X0.size).head
      exact ⟨_, fp, rfl, hO, ext_trans X0 B⟩
end Go.Proofs.Ytfgobdejlfojiaa
