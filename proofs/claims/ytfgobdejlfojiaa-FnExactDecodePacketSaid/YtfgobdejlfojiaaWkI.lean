/- PathFromInts, of the program and of the reference. -/
import Derived.Test.YtfgobdejlfojiaaHole
import Derived.Test.YtfgobdejlfojiaaSepN
import Derived.Test.YtfgobdejlfojiaaEnc
import Derived.Test.YtfgobdejlfojiaaNum
import Derived.Test.YtfgobdejlfojiaaPathInts
namespace Go.Proofs.Ytfgobdejlfojiaa
open Go.RowKit
set_option linter.unusedVariables false
set_option maxRecDepth 20000

def gI (l : List Int) (i : Nat) : Int := l[i]?.getD 0
theorem gI_eq {l : List Int} {i : Nat} {x : Int} (h : l[i]? = some x) : gI l i = x := by unfold gI; rw [h]; rfl
def hopAt (l : List Int) (i : Nat) : Hop := ⟨gI l i, gI l (i + 1), gI l (i + 2), gI l (i + 3), gI l (i + 4)⟩
def hopsAt (l : List Int) (i n : Nat) : List Hop := (List.range n).map fun j => hopAt l (i + 5 * j)
theorem hopsAt_succ (l : List Int) (i n : Nat) : hopsAt l i (n + 1) = hopsAt l i n ++ [hopAt l (i + 5 * n)] := by
  unfold hopsAt; rw [List.range_succ, List.map_append]; rfl
theorem hopsAt_len (l : List Int) (i n : Nat) : (hopsAt l i n).length = n := by unfold hopsAt; simp
def partAt (l : List Int) (i : Nat) : Part := ⟨gI l i, gI l (i + 1), gI l (i + 2), hopsAt l (i + 4) (gI l (i + 3)).toNat⟩
def okAt (l : List Int) (i : Nat) : Prop := i + 4 ≤ l.length ∧ (0 ≤ gI l (i + 3) ∧ gI l (i + 3) ≤ 8) ∧ i + 4 + 5 * (gI l (i + 3)).toNat ≤ l.length
instance (l : List Int) (i : Nat) : Decidable (okAt l i) := by unfold okAt; infer_instance
/-- The parts that the numbers from place i on spell. -/
def pfi (l : List Int) (i : Nat) (acc : Path) : Option Path := if h : i < l.length then (if okAt l i then pfi l (i + 4 + 5 * (gI l (i + 3)).toNat) (acc ++ [partAt l i]) else none) else some acc
termination_by l.length - i
decreasing_by omega
theorem pfi_done {l : List Int} {i : Nat} {acc : Path} (h : ¬ i < l.length) : pfi l i acc = some acc := by rw [pfi, dif_neg h]
theorem pfi_bad {l : List Int} {i : Nat} {acc : Path} (h : i < l.length) (hb : ¬ okAt l i) : pfi l i acc = none := by rw [pfi, dif_pos h, if_neg hb]
theorem pfi_step {l : List Int} {i : Nat} {acc : Path} (h : i < l.length) (hb : okAt l i) : pfi l i acc = pfi l (i + 4 + 5 * (gI l (i + 3)).toNat) (acc ++ [partAt l i]) := by rw [pfi, dif_pos h, if_pos hb]
def pathOf (l : List Int) : Path × Bool := match pfi l 0 [] with
  | none => ([], false)
  | some p => if encPath p then (p, true) else ([], false)
theorem pathOf_bad {l : List Int} (h : pfi l 0 [] = none) : pathOf l = ([], false) := by unfold pathOf; rw [h]
theorem pathOf_no {l : List Int} {p : Path} (h : pfi l 0 [] = some p) (he : encPath p = false) : pathOf l = ([], false) := by unfold pathOf; rw [h]; simp [he]
theorem pathOf_yes {l : List Int} {p : Path} (h : pfi l 0 [] = some p) (he : encPath p = true) : pathOf l = (p, true) := by unfold pathOf; rw [h]; simp [he]
theorem gI_in {l : List Int} (h : ∀ x ∈ l, In64 x) (i : Nat) : In64 (gI l i) := by
  unfold gI
  cases hx : l[i]? with
  | none => exact ⟨by decide, by decide⟩
  | some x => exact h x (List.mem_of_getElem? hx)
theorem partAt_rng {l : List Int} (h : ∀ x ∈ l, In64 x) (i : Nat) : rng_part (partAt l i) := by
  refine ⟨gI_in h _, gI_in h _, gI_in h _, fun x hx => ?_⟩
  obtain ⟨j, _, rfl⟩ := List.mem_map.1 hx
  exact ⟨gI_in h _, gI_in h _, gI_in h _, gI_in h _, gI_in h _⟩
theorem sz_snoc (p : Path) (x : Part) : sz_path (p ++ [x]) = sz_path p + 1 + x.hops.length := by
  show List.length (p ++ [x]) + _ = List.length p + _ + 1 + _
  simp [sz_part]; omega
theorem lenOk_sz {p : Path} (h : sz_path p ≤ 1048576) : lenOk_path p := by
  have h' : List.length p + (p.map sz_part).sum ≤ 1048576 := h
  refine ⟨by show List.length p ≤ _; omega, fun x hx => ?_⟩
  have := mem_len_path hx
  show x.hops.length ≤ _
  omega
theorem encPath_sz {p : Path} (h : encPath p = true) : sz_path p ≤ 27 := by
  unfold encPath at h
  rw [Bool.and_eq_true, List.all_eq_true, decide_eq_true_eq] at h
  show List.length p + (p.map sz_part).sum ≤ 27
  have h8 : ∀ x ∈ p, sz_part x ≤ 8 := fun x hx => by
    have := h.2 x hx
    unfold encPart encHops at this
    simp only [Bool.and_eq_true, decide_eq_true_eq] at this
    exact this.2.2.1
  have h3 : List.length p ≤ 3 := h.1
  have : ∀ q : List Part, (∀ x ∈ q, sz_part x ≤ 8) → (q.map sz_part).sum ≤ 8 * q.length := by
    intro q
    induction q with
    | nil => simp
    | cons a t ih =>
      intro hq
      have h1 := hq a (by simp)
      have h2 := ih fun x hx => hq x (by simp [hx])
      simp only [List.map_cons, List.sum_cons, List.length_cons]
      omega
  have := this p h8
  have e : List.length p = p.length := rfl
  omega
theorem pathOf_sz (l : List Int) : sz_path (pathOf l).1 ≤ 27 := by
  unfold pathOf
  split
  · exact Nat.zero_le _
  · split
    · rename_i h; exact encPath_sz h
    · exact Nat.zero_le _

theorem spec_PathFromInts (l : List Int) (v : Value) (w : World) (h : SlR intT w v l) (hz : l.length ≤ 1048576) (hg : ∀ x ∈ l, In64 x) : Calls Try.prog 94 #[v] w fun e w' => ∃ cs fp, e = .returned (.tuple #[.agg cs.toArray, .bool (pathOf l).2]) ∧ pathT.O w.heap.size w' cs (pathOf l).1 fp ∧ Below w.heap.size w w' := by
  have X0 := Below.refl w.heap.size w
  refine enter Try.func94 rfl Try.ntmps94 rfl ?_
  refine w_seq ?_
  refine w_region ?_
  have S := Sep.nil w
  have B := Below.refl w.heap.size w
  have Hb := Nat.le_refl w.heap.size
  refine t_alloc S z_path rfl ?_ rfl rfl
  intro g2 w1 x2 S
  have B := bx Hb B x2
  refine t_assign rfl ?_ rfl
  refine t_done ?_
  refine x_seq ?_
  refine w_seq ?_
  refine w_region ?_
  refine t_build (fun w => b_path0 w) rfl ?_ rfl
  refine t_alloc S z_path rfl ?_ rfl rfl
  intro g4 w3 x4 S
  have B := bx Hb B x4
  refine t_stn S sb_path rfl rfl rfl rfl (by simp [Value.oneCell']) ?_
  intro w5 b6 S
  have B := B.trans b6
  refine t_done ?_
  refine x_seq ?_
  refine w_seq ?_
  refine w_region ?_
  refine t_assign rfl ?_ rfl
  refine t_done ?_
  refine x_seq ?_
  refine w_seq ?_
  refine w_block ?_
  refine w_loop (X := Nat × Path × Value) (fun x wq => (fun i acc q => i ≤ l.length ∧ pfi l i acc = pfi l 0 [] ∧ sz_path acc ≤ i ∧ rng_path acc ∧ Below w.heap.size w wq ∧ Sep w.heap.size wq [bxO g4 39 #[q], slO partT 90 q acc, bxO g2 39 #[.slice none 0 0]]) x.1 x.2.1 x.2.2) (fun x => (fun i acc q => [(5, I ((i : Int))), (0, v), (2, .pointer (some ⟨g2, 0, none⟩)), (4, .pointer (some ⟨g4, 0, none⟩))]) x.1 x.2.1 x.2.2) (fun x => (fun i acc q => l.length - i) x.1 x.2.1 x.2.2) (0, [], .slice none 0 0) ?_ ⟨rfl, rfl, rfl, rfl, trivial⟩ ?_
  · exact ⟨by omega, rfl, Nat.le_refl _, (fun x hx => by cases hx), B, S.addNil.f1⟩
  · rintro ⟨i, acc, q⟩ w7 hI
    try dsimp only at hI ⊢
    obtain ⟨hi, hp, hsz, hrg, B, S⟩ := hI
    refine w_seq ?_
    refine w_seq ?_
    refine w_region ?_
    refine t_move rfl ?_ rfl
    refine t_move rfl ?_ rfl
    refine t_len e_int (by assumption) rfl rfl ?_ rfl
    refine t_lss rfl rfl ?_ rfl
    refine t_done ?_
    refine x_seq ?_
    refine w_if rfl ?_ ?_
    · intro hlt
      have hlt' : i < l.length := by omega
      refine w_skip ?_
      refine x_seq ?_
      refine w_block ?_
      refine w_seq ?_
      refine w_seq ?_
      refine w_region ?_
      refine t_move rfl ?_ rfl
      refine t_len e_int (by assumption) rfl rfl ?_ rfl
      refine t_move rfl ?_ rfl
      refine t_sub rfl rfl (by omega) ?_ rfl
      refine t_lss rfl rfl ?_ rfl
      refine t_move rfl ?_ rfl
      refine t_partp (t := 19) rfl ?_ ?_
      · intro h1
        refine t_off rfl rfl rfl ?_ rfl
        refine t_off rfl rfl rfl ?_ rfl
        refine t_off rfl rfl rfl ?_ rfl
        refine t_off rfl rfl rfl ?_ rfl
        refine t_off rfl rfl rfl ?_ rfl
        refine t_off rfl rfl rfl ?_ rfl
        refine t_off rfl rfl rfl ?_ rfl
        refine t_pickt rfl rfl ?_ rfl
        refine t_move rfl ?_ rfl
        refine t_off rfl rfl rfl ?_ rfl
        refine t_off rfl rfl rfl ?_ rfl
        refine t_off rfl rfl rfl ?_ rfl
        refine t_off rfl rfl rfl ?_ rfl
        refine t_off rfl rfl rfl ?_ rfl
        refine t_off rfl rfl rfl ?_ rfl
        refine t_off rfl rfl rfl ?_ rfl
        refine t_off rfl rfl rfl ?_ rfl
        refine t_off rfl rfl rfl ?_ rfl
        refine t_off rfl rfl rfl ?_ rfl
        refine t_off rfl rfl rfl ?_ rfl
        refine t_off rfl rfl rfl ?_ rfl
        refine t_pickt rfl rfl ?_ rfl
        refine t_done ?_
        refine x_seq ?_
        refine w_yes rfl ?_
        refine w_seq ?_
        refine w_region ?_
        refine t_build (fun w => b_path0 w) rfl ?_ rfl
        have S := S.f2
        refine t_stn S sb_path rfl rfl rfl rfl (by simp [Value.oneCell']) ?_
        intro w8 b9 S
        have B := B.trans b9
        refine t_assign rfl ?_ rfl
        refine t_done ?_
        refine x_seq ?_
        refine w_ret ?_
        refine x_then_ret ?_
        refine x_block_ret ?_
        refine x_then_ret ?_
        refine x_block_ret ?_
        refine x_then_ret ?_
        refine x_retct rfl rfl S.box ab_path sb_path rfl rfl ?_
        have hbad := pathOf_bad (hp.symm.trans (pfi_bad hlt' (fun hk => by have := hk.1; omega)))
        obtain ⟨fp, hO⟩ := ((S.addNil (T := partT) (e := 90)).pathShut (x := [])).head
        exact ⟨_, fp, by rw [hbad], by rw [hbad]; exact pathT.mono _ _ _ _ _ _ X0.size hO, ext_trans X0 B⟩
      intro h1
      refine t_on rfl rfl ?_
      refine t_move rfl ?_ rfl
      refine t_on rfl rfl ?_
      refine t_move rfl ?_ rfl
      refine t_on rfl rfl ?_
      refine t_add rfl rfl (by omega) ?_ rfl
      refine t_on rfl rfl ?_
      obtain ⟨e23, he23⟩ : ∃ e, (l)[(i + 3)]? = some e := getx (by omega)
      refine t_idx e_int (k := (i + 3)) (by assumption) he23 B rfl rfl (by first | rfl | omega) ?_ rfl
      intro p23 hp23
      refine t_on rfl rfl ?_
      refine t_ldi (by assumption) ab_int B rfl ?_ rfl
      refine t_on rfl rfl ?_
      refine t_calls Try.call64 rfl (spec_l1In _ _ _ _) ?_ rfl rfl
      refine t_on rfl rfl ?_
      refine t_notb rfl ?_ rfl
      refine t_pickf rfl rfl ?_ rfl
      refine t_move rfl ?_ rfl
      have hgn := gI_eq he23
      refine t_part (t := 28) rfl ?_ ?_
      · intro h2
        refine t_off rfl rfl rfl ?_ rfl
        refine t_off rfl rfl rfl ?_ rfl
        refine t_off rfl rfl rfl ?_ rfl
        refine t_off rfl rfl rfl ?_ rfl
        refine t_off rfl rfl rfl ?_ rfl
        refine t_off rfl rfl rfl ?_ rfl
        refine t_off rfl rfl rfl ?_ rfl
        refine t_off rfl rfl rfl ?_ rfl
        refine t_off rfl rfl rfl ?_ rfl
        refine t_off rfl rfl rfl ?_ rfl
        refine t_off rfl rfl rfl ?_ rfl
        refine t_off rfl rfl rfl ?_ rfl
        refine t_pickt rfl rfl ?_ rfl
        refine t_done ?_
        refine x_seq ?_
        refine w_yes rfl ?_
        refine w_seq ?_
        refine w_region ?_
        refine t_build (fun w => b_path0 w) rfl ?_ rfl
        have S := S.f2
        refine t_stn S sb_path rfl rfl rfl rfl (by simp [Value.oneCell']) ?_
        intro w10 b11 S
        have B := B.trans b11
        refine t_assign rfl ?_ rfl
        refine t_done ?_
        refine x_seq ?_
        refine w_ret ?_
        refine x_then_ret ?_
        refine x_block_ret ?_
        refine x_then_ret ?_
        refine x_block_ret ?_
        refine x_then_ret ?_
        refine x_retct rfl rfl S.box ab_path sb_path rfl rfl ?_
        have h2' : inR e23 0 8 = false := by simpa using h2
        have hbad := pathOf_bad (hp.symm.trans (pfi_bad hlt' (fun hk => by have := hk.2.1; rw [hgn] at this; rw [inR_iff.2 this] at h2'; cases h2')))
        obtain ⟨fp, hO⟩ := ((S.addNil (T := partT) (e := 90)).pathShut (x := [])).head
        exact ⟨_, fp, by rw [hbad], by rw [hbad]; exact pathT.mono _ _ _ _ _ _ X0.size hO, ext_trans X0 B⟩
      intro h2
      have r2 : 0 ≤ e23 ∧ e23 ≤ 8 := inR_iff.1 (by simpa using h2)
      refine t_on rfl rfl ?_
      refine t_move rfl ?_ rfl
      refine t_on rfl rfl ?_
      refine t_len e_int (by assumption) rfl rfl ?_ rfl
      refine t_on rfl rfl ?_
      refine t_move rfl ?_ rfl
      refine t_on rfl rfl ?_
      refine t_sub rfl rfl (by omega) ?_ rfl
      refine t_on rfl rfl ?_
      refine t_sub rfl rfl (by omega) ?_ rfl
      refine t_on rfl rfl ?_
      refine t_move rfl ?_ rfl
      refine t_on rfl rfl ?_
      refine t_move rfl ?_ rfl
      refine t_on rfl rfl ?_
      refine t_add rfl rfl (by omega) ?_ rfl
      refine t_on rfl rfl ?_
      refine t_idx e_int (k := (i + 3)) (by assumption) he23 B rfl rfl (by first | rfl | omega) ?_ rfl
      intro p37 hp37
      refine t_on rfl rfl ?_
      refine t_ldi (by assumption) ab_int B rfl ?_ rfl
      refine t_on rfl rfl ?_
      refine t_mul rfl rfl (by omega) ?_ rfl
      refine t_on rfl rfl ?_
      refine t_lss rfl rfl ?_ rfl
      refine t_pickf rfl rfl ?_ rfl
      refine t_done ?_
      refine x_seq ?_
      refine w_if rfl ?_ ?_
      · intro h3
        refine w_seq ?_
        refine w_region ?_
        refine t_build (fun w => b_path0 w) rfl ?_ rfl
        have S := S.f2
        refine t_stn S sb_path rfl rfl rfl rfl (by simp [Value.oneCell']) ?_
        intro w12 b13 S
        have B := B.trans b13
        refine t_assign rfl ?_ rfl
        refine t_done ?_
        refine x_seq ?_
        refine w_ret ?_
        refine x_then_ret ?_
        refine x_block_ret ?_
        refine x_then_ret ?_
        refine x_block_ret ?_
        refine x_then_ret ?_
        refine x_retct rfl rfl S.box ab_path sb_path rfl rfl ?_
        have hbad := pathOf_bad (hp.symm.trans (pfi_bad hlt' (fun hk => by have := hk.2.2; rw [hgn] at this; omega)))
        obtain ⟨fp, hO⟩ := ((S.addNil (T := partT) (e := 90)).pathShut (x := [])).head
        exact ⟨_, fp, by rw [hbad], by rw [hbad]; exact pathT.mono _ _ _ _ _ _ X0.size hO, ext_trans X0 B⟩
      intro h3
      have hok : okAt l i := ⟨by omega, by rw [hgn]; exact r2, by rw [hgn]; omega⟩
      have hst := pfi_step (acc := acc) hlt' hok
      rw [hgn] at hst
      obtain ⟨n, hn⟩ : ∃ n : Nat, e23 = n := ⟨e23.toNat, by omega⟩
      refine w_skip ?_
      refine x_seq ?_
      refine w_seq ?_
      refine w_draw (.st .take 0 (.st .take 1 (.st .take 2 (.st .take 3 (.st .take 4 (.st .take 5 (.st .take 6 (.st .take 7 (.st .take 8 (.st .take 9 (.st .take 10 (.st .take 11 (.st .take 12 (.st .take 13 (.st .take 14 (.st .run 15 (.st .fin 16 .done))))))))))))))))) mixed (by kernel_rfl) ?_
      intro w14 x15
      have B := bx Hb B x15
      have S := S.below x15
      refine t_move rfl ?_ rfl
      refine t_move rfl ?_ rfl
      obtain ⟨e45, he45⟩ : ∃ e, (l)[i]? = some e := getx (by omega)
      refine t_idx e_int (k := i) (by assumption) he45 B rfl rfl (by first | rfl | omega) ?_ rfl
      intro p45 hp45
      refine t_ldi (by assumption) ab_int B rfl ?_ rfl
      refine t_move rfl ?_ rfl
      refine t_move rfl ?_ rfl
      refine t_add rfl rfl (by omega) ?_ rfl
      obtain ⟨e50, he50⟩ : ∃ e, (l)[(i + 1)]? = some e := getx (by omega)
      refine t_idx e_int (k := (i + 1)) (by assumption) he50 B rfl rfl (by first | rfl | omega) ?_ rfl
      intro p50 hp50
      refine t_ldi (by assumption) ab_int B rfl ?_ rfl
      refine t_move rfl ?_ rfl
      refine t_move rfl ?_ rfl
      refine t_add rfl rfl (by omega) ?_ rfl
      obtain ⟨e55, he55⟩ : ∃ e, (l)[(i + 2)]? = some e := getx (by omega)
      refine t_idx e_int (k := (i + 2)) (by assumption) he55 B rfl rfl (by first | rfl | omega) ?_ rfl
      intro p55 hp55
      refine t_ldi (by assumption) ab_int B rfl ?_ rfl
      refine t_build (fun w => b_part3 _ _ _ w) rfl ?_ rfl
      refine t_alloc S z_part rfl ?_ rfl rfl
      intro g6 w16 x17 S
      have B := bx Hb B x17
      refine t_stn S sb_part rfl rfl rfl rfl (by simp [Value.oneCell']) ?_
      intro w18 b19 S
      have B := B.trans b19
      refine t_done' ?_
      refine x_seq ?_
      refine w_seq ?_
      refine w_region ?_
      refine t_move rfl ?_ rfl
      refine t_move rfl ?_ rfl
      refine t_add rfl rfl (by omega) ?_ rfl
      refine t_idx e_int (k := (i + 3)) (by assumption) he23 B rfl rfl (by first | rfl | omega) ?_ rfl
      intro p61 hp61
      refine t_ldi (by assumption) ab_int B rfl ?_ rfl
      refine t_assign rfl ?_ rfl
      refine t_done ?_
      refine x_seq ?_
      refine w_seq ?_
      refine w_region ?_
      refine t_move rfl ?_ rfl
      refine t_add rfl rfl (by omega) ?_ rfl
      refine t_assign rfl ?_ rfl
      refine t_done ?_
      refine x_seq ?_
      refine w_seq ?_
      refine w_seq ?_
      refine w_region ?_
      refine t_assign rfl ?_ rfl
      refine t_done ?_
      refine x_seq ?_
      refine w_block ?_
      refine w_loop (X := Nat × Nat × Value) (fun x wq => (fun k j u => k ≤ n ∧ j = i + 4 + 5 * k ∧ Below w.heap.size w wq ∧ Sep w.heap.size wq [bxO g6 90 #[I e45, I e50, I e55, u], slO hopT 93 u (hopsAt l (i + 4) k), bxO g4 39 #[q], slO partT 90 q acc, bxO g2 39 #[.slice none 0 0]]) x.1 x.2.1 x.2.2) (fun x => (fun k j u => [(8, I ((k : Int))), (5, I ((j : Int))), (0, v), (2, .pointer (some ⟨g2, 0, none⟩)), (4, .pointer (some ⟨g4, 0, none⟩)), (6, .pointer (some ⟨g6, 0, none⟩)), (7, I e23)]) x.1 x.2.1 x.2.2) (fun x => (fun k j u => n - k) x.1 x.2.1 x.2.2) (0, i + 4, .slice none 0 0) ?_ ⟨rfl, rfl, rfl, rfl, rfl, rfl, rfl, trivial⟩ ?_
      · exact ⟨by omega, by show i + 4 = i + 4 + 5 * 0; omega, B, S.addNil.f1⟩
      · rintro ⟨k, j, u⟩ w20 hI
        try dsimp only at hI ⊢
        obtain ⟨hk, hj, B, S⟩ := hI
        have hhl := hopsAt_len l (i + 4) k
        refine w_seq ?_
        refine w_seq ?_
        refine w_region ?_
        refine t_move rfl ?_ rfl
        refine t_move rfl ?_ rfl
        refine t_lss rfl rfl ?_ rfl
        refine t_done ?_
        refine x_seq ?_
        refine w_if rfl ?_ ?_
        · intro hlt2
          refine w_skip ?_
          refine x_seq ?_
          refine w_seq ?_
          refine w_block ?_
          refine w_seq ?_
          refine w_draw (.st .take 0 (.st .take 1 (.st .take 2 (.st .take 3 (.st .take 4 (.st .take 5 (.st .take 6 (.st .take 7 (.st .take 8 (.st .take 9 (.st .take 10 (.st .take 11 (.st .take 12 (.st .take 13 (.st .take 14 (.st .take 15 (.st .take 16 (.st .take 17 (.st .take 18 (.st .take 19 (.st .take 20 (.st .take 21 (.st .take 22 (.st .take 23 (.st .take 24 (.st .take 25 (.st .take 26 (.st .run 27 (.st .fin 28 (.st .fin 29 (.st .fin 30 .done))))))))))))))))))))))))))))))) mixed (by kernel_rfl) ?_
          intro w21 x22
          have B := bx Hb B x22
          have S := S.below x22
          refine t_fldx fb_part_3 rfl rfl ?_ rfl
          refine t_bx1 S.box ab_s_hop rfl rfl ?_ rfl
          refine t_move rfl ?_ rfl
          refine t_move rfl ?_ rfl
          obtain ⟨e74, he74⟩ : ∃ e, (l)[j]? = some e := getx (by omega)
          refine t_idx e_int (k := j) (by assumption) he74 B rfl rfl (by first | rfl | omega) ?_ rfl
          intro p74 hp74
          refine t_ldi (by assumption) ab_int B rfl ?_ rfl
          refine t_move rfl ?_ rfl
          refine t_move rfl ?_ rfl
          refine t_add rfl rfl (by omega) ?_ rfl
          obtain ⟨e79, he79⟩ : ∃ e, (l)[(j + 1)]? = some e := getx (by omega)
          refine t_idx e_int (k := (j + 1)) (by assumption) he79 B rfl rfl (by first | rfl | omega) ?_ rfl
          intro p79 hp79
          refine t_ldi (by assumption) ab_int B rfl ?_ rfl
          refine t_move rfl ?_ rfl
          refine t_move rfl ?_ rfl
          refine t_add rfl rfl (by omega) ?_ rfl
          obtain ⟨e84, he84⟩ : ∃ e, (l)[(j + 2)]? = some e := getx (by omega)
          refine t_idx e_int (k := (j + 2)) (by assumption) he84 B rfl rfl (by first | rfl | omega) ?_ rfl
          intro p84 hp84
          refine t_ldi (by assumption) ab_int B rfl ?_ rfl
          refine t_move rfl ?_ rfl
          refine t_move rfl ?_ rfl
          refine t_add rfl rfl (by omega) ?_ rfl
          obtain ⟨e89, he89⟩ : ∃ e, (l)[(j + 3)]? = some e := getx (by omega)
          refine t_idx e_int (k := (j + 3)) (by assumption) he89 B rfl rfl (by first | rfl | omega) ?_ rfl
          intro p89 hp89
          refine t_ldi (by assumption) ab_int B rfl ?_ rfl
          refine t_move rfl ?_ rfl
          refine t_move rfl ?_ rfl
          refine t_add rfl rfl (by omega) ?_ rfl
          obtain ⟨e94, he94⟩ : ∃ e, (l)[(j + 4)]? = some e := getx (by omega)
          refine t_idx e_int (k := (j + 4)) (by assumption) he94 B rfl rfl (by first | rfl | omega) ?_ rfl
          intro p94 hp94
          refine t_ldi (by assumption) ab_int B rfl ?_ rfl
          refine t_build (fun w => b_hop _ _ _ _ _ w) rfl ?_ rfl
          refine t_lit (T := hopT) (l := [(⟨e74, e79, e84, e89, e94⟩ : Hop)]) (css := [[I e74, I e79, I e84, I e89, I e94]]) hop_flat S (fun w => bs_hop1 _ _ _ _ _ w) rfl rfl rfl rfl (by simp [maxLen]) (litR_one fun _ => rfl) ?_ rfl rfl
          intro u97 w23 x24 S
          have B := bx Hb B x24
          have hR := S.sl
          have S := S.f2
          refine t_cat hop_flat e_hop S hR rfl rfl rfl (by first | omega | (simp [-List.length_flatMap]; omega)) (by (simp [maxLen, -List.length_flatMap]; try omega)) ?_ rfl
          intro v98 w25 x26 S
          have B := B.trans x26
          clear hR
          have S := S.f1
          have S := S.tail
          refine t_fldx fb_part_3 rfl rfl ?_ rfl
          obtain ⟨Av98, cv98, rfl, _⟩ := S.sl.form
          have S := S.f1
          refine t_st1 S sb_s_hop rfl rfl rfl rfl rfl ?_
          intro w27 b28 S
          have B := B.trans b28
          refine t_done' ?_
          refine x_seq ?_
          refine w_region ?_
          refine t_move rfl ?_ rfl
          refine t_add rfl rfl (by omega) ?_ rfl
          refine t_assign rfl ?_ rfl
          refine t_done ?_
          refine x_block_normal ?_
          refine x_seq ?_
          refine w_region ?_
          refine t_move rfl ?_ rfl
          refine t_add rfl rfl (by omega) ?_ rfl
          refine t_assign rfl ?_ rfl
          refine t_done ?_
          refine x_round (I := (fun x wq => (fun k j u => k ≤ n ∧ j = i + 4 + 5 * k ∧ Below w.heap.size w wq ∧ Sep w.heap.size wq [bxO g6 90 #[I e45, I e50, I e55, u], slO hopT 93 u (hopsAt l (i + 4) k), bxO g4 39 #[q], slO partT 90 q acc, bxO g2 39 #[.slice none 0 0]]) x.1 x.2.1 x.2.2)) (F := (fun x => (fun k j u => [(8, I ((k : Int))), (5, I ((j : Int))), (0, v), (2, .pointer (some ⟨g2, 0, none⟩)), (4, .pointer (some ⟨g4, 0, none⟩)), (6, .pointer (some ⟨g6, 0, none⟩)), (7, I e23)]) x.1 x.2.1 x.2.2)) (μ := (fun x => (fun k j u => n - k) x.1 x.2.1 x.2.2)) (k + 1, j + 5, .slice Av98 (((hopsAt l (i + 4) k)) ++ ([(⟨e74, e79, e84, e89, e94⟩ : Hop)])).length cv98) ?_ (by exact ⟨rfl, rfl, rfl, rfl, rfl, rfl, rfl, trivial⟩) (by (try dsimp only); omega)
          try dsimp only
          refine ⟨by omega, by omega, B, ?_⟩
          have hh : hopAt l (i + 4 + 5 * k) = ⟨e74, e79, e84, e89, e94⟩ := by
            rw [← hj, hopAt, gI_eq he74, gI_eq he79, gI_eq he84, gI_eq he89, gI_eq he94]
          rw [hopsAt_succ, hh]
          exact S
        · intro hge2
          have : k = n := by omega
          subst this
          have hal : List.length acc ≤ sz_path acc := by show List.length acc ≤ List.length acc + _; omega
          have hpA : partAt l i = ⟨e45, e50, e55, hopsAt l (i + 4) k⟩ := by
            rw [partAt, gI_eq he45, gI_eq he50, gI_eq he55, hgn, hn]; rfl
          refine w_exit ?_
          refine x_then_exit ?_
          refine x_then_exit ?_
          refine x_block_exit ?_
          refine x_seq ?_
          refine w_region ?_
          refine t_fldx fb_path_0 rfl rfl ?_ rfl
          refine t_bx1 S.tail.tail.box ab_s_part rfl rfl ?_ rfl
          refine t_bxn S.box ab_part sb_part rfl rfl ?_ rfl
          refine t_lit1 (fun w => bs_part1 _ _ _ _ w) rfl ?_ rfl rfl
          intro A105 w29 x30 hA105
          have B := bx Hb B x30
          have S := S.below x30
          have S := S.f1
          have S := S.partShut (x := (⟨e45, e50, e55, (hopsAt l (i + 4) k)⟩ : Part))
          have S := S.f3
          refine t_snoc e_part S hA105 rfl rfl rfl (by first | omega | (simp; done)) (by (simp only [maxLen]); first | omega | (simp; done)) ?_ rfl
          intro v106 w31 x32 S
          have B := B.trans x32
          refine t_fldx fb_path_0 rfl rfl ?_ rfl
          obtain ⟨Av106, cv106, rfl, _⟩ := S.sl.form
          have S := S.f2
          refine t_st1 S sb_s_part rfl rfl rfl rfl rfl ?_
          intro w33 b34 S
          have B := B.trans b34
          refine t_done ?_
          refine x_block_normal ?_
          have S := S.f2
          have S := S.tail
          refine x_round (I := (fun x wq => (fun i acc q => i ≤ l.length ∧ pfi l i acc = pfi l 0 [] ∧ sz_path acc ≤ i ∧ rng_path acc ∧ Below w.heap.size w wq ∧ Sep w.heap.size wq [bxO g4 39 #[q], slO partT 90 q acc, bxO g2 39 #[.slice none 0 0]]) x.1 x.2.1 x.2.2)) (F := (fun x => (fun i acc q => [(5, I ((i : Int))), (0, v), (2, .pointer (some ⟨g2, 0, none⟩)), (4, .pointer (some ⟨g4, 0, none⟩))]) x.1 x.2.1 x.2.2)) (μ := (fun x => (fun i acc q => l.length - i) x.1 x.2.1 x.2.2)) (j, acc ++ [⟨e45, e50, e55, hopsAt l (i + 4) k⟩], .slice Av106 (acc ++ [(⟨e45, e50, e55, (hopsAt l (i + 4) k)⟩ : Part)]).length cv106) ?_ (by exact ⟨rfl, rfl, rfl, rfl, trivial⟩) (by (try dsimp only); omega)
          try dsimp only
          have hj2 : i + 4 + 5 * e23.toNat = j := by omega
          rw [hpA, hj2] at hst
          refine ⟨by omega, by rw [← hst]; exact hp, by rw [sz_snoc]; show sz_path acc + 1 + (hopsAt l (i + 4) k).length ≤ j; omega, ?_, B, S⟩
          intro x hx
          rcases List.mem_append.1 hx with hx | hx
          · exact hrg x hx
          · rw [List.mem_singleton] at hx
            rw [hx, ← hpA]
            exact partAt_rng hg i
    · intro hge
      have hend := hp.symm.trans (pfi_done (by omega))
      have hok2 := lenOk_sz (p := acc) (by omega)
      refine w_exit ?_
      refine x_then_exit ?_
      refine x_then_exit ?_
      refine x_block_exit ?_
      refine x_seq ?_
      refine w_seq ?_
      refine w_seq ?_
      refine w_region ?_
      refine t_bxn S.box ab_path sb_path rfl rfl ?_ rfl
      refine t_callx Try.call150 rfl (va1 (path_mkv (S.tail.sl)) fun cs h => spec_EncodablePath _ cs _ h (by omega) (by assumption) (by assumption)) ?_ rfl rfl
      intro w35 x36
      have B := bx Hb B x36
      have S := S.below x36
      refine t_notb rfl ?_ rfl
      refine t_done ?_
      refine x_seq ?_
      refine w_ifb rfl ?_ ?_
      · intro h4
        refine w_seq ?_
        refine w_region ?_
        refine t_build (fun w => b_path0 w) rfl ?_ rfl
        have S := S.f2
        refine t_stn S sb_path rfl rfl rfl rfl (by simp [Value.oneCell']) ?_
        intro w37 b38 S
        have B := B.trans b38
        refine t_assign rfl ?_ rfl
        refine t_done ?_
        refine x_seq ?_
        refine w_ret ?_
        refine x_then_ret ?_
        refine x_retct rfl rfl S.box ab_path sb_path rfl rfl ?_
        have hbad := pathOf_no hend (by simpa using h4)
        obtain ⟨fp, hO⟩ := ((S.addNil (T := partT) (e := 90)).pathShut (x := [])).head
        exact ⟨_, fp, by rw [hbad], by rw [hbad]; exact pathT.mono _ _ _ _ _ _ X0.size hO, ext_trans X0 B⟩
      · intro h4
        refine w_skip ?_
        refine x_seq ?_
        refine w_seq ?_
        refine w_region ?_
        refine t_bxn S.box ab_path sb_path rfl rfl ?_ rfl
        have S := S.f2
        refine t_stn S sb_path rfl rfl rfl rfl (by intro zz hu; have hu : zz ∈ ([q] : List Value) := hu; simp only [List.mem_cons, List.not_mem_nil, or_false] at hu; rcases hu with rfl <;> first | rfl | exact (SlR.cells (by first | assumption | exact S.tail.sl | exact S.tail.tail.sl | exact S.tail.tail.tail.sl | exact S.tail.tail.tail.tail.sl | exact S.tail.tail.tail.tail.tail.sl | exact S.tail.tail.tail.tail.tail.tail.sl | exact S.tail.tail.tail.tail.tail.tail.tail.sl | exact S.tail.tail.tail.tail.tail.tail.tail.tail.sl)).2) ?_
        intro w39 b40 S
        have B := B.trans b40
        refine t_assign rfl ?_ rfl
        refine t_done ?_
        refine x_seq ?_
        refine w_ret ?_
        refine x_retct rfl rfl S.box ab_path sb_path rfl rfl ?_
        have hyes := pathOf_yes hend (by simpa using h4)
        obtain ⟨fp, hO⟩ := (S.f2.pathShut).head
        exact ⟨_, fp, by rw [hyes], by rw [hyes]; exact pathT.mono _ _ _ _ _ _ X0.size hO, ext_trans X0 B⟩
end Go.Proofs.Ytfgobdejlfojiaa
