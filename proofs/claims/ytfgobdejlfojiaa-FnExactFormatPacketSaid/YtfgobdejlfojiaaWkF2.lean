/- FormatAS, FormatPath, FormatPacket, of the program and of the reference. -/
import Derived.Test.YtfgobdejlfojiaaWkF1
import Derived.Test.YtfgobdejlfojiaaWkC
import Derived.Test.YtfgobdejlfojiaaPathStepsB
namespace Go.Proofs.Ytfgobdejlfojiaa
open Go.RowKit
set_option linter.unusedVariables false
set_option maxRecDepth 20000

/-! ### The numbers of a path's steps are ints -/

theorem in64_0 : In64 0 := ⟨by decide, by decide⟩
theorem partIn_in {x : Part} (h : rng_part x) (j : Nat) : In64 (partIn x j) := by
  unfold partIn
  cases hx : x.hops[j]? with
  | none => exact in64_0
  | some y =>
    have := h.2.2.2 y (List.mem_of_getElem? hx)
    simp only
    split
    · exact this.2.2.1
    · exact this.2.1
theorem partOut_in {x : Part} (h : rng_part x) (j : Nat) : In64 (partOut x j) := by
  unfold partOut
  cases hx : x.hops[j]? with
  | none => exact in64_0
  | some y =>
    have := h.2.2.2 y (List.mem_of_getElem? hx)
    simp only
    split
    · exact this.2.1
    · exact this.2.2.1
theorem hopIa_in {x : Part} (h : rng_part x) (j : Nat) : In64 (hopIa x j) := by
  unfold hopIa
  cases hx : x.hops[j]? with
  | none => exact in64_0
  | some y => exact (h.2.2.2 y (List.mem_of_getElem? hx)).1
def allS (l : List Stp) : Prop := ∀ s ∈ l, rng_step s
theorem allS_get {l : List Stp} (h : allS l) (k : Nat) : rng_step ((l[k]?).getD ⟨0, 0, 0⟩) := by
  cases hx : l[k]? with
  | none => exact ⟨in64_0, in64_0, in64_0⟩
  | some y => exact h y (List.mem_of_getElem? hx)
theorem allS_set {l : List Stp} (h : allS l) (k : Nat) {s : Stp} (hs : rng_step s) : allS (l.set k s) := fun y hy => by
  rcases List.mem_or_eq_of_mem_set hy with hy | hy
  · exact h y hy
  · rw [hy]; exact hs
theorem addHop_in {i : Nat} {x : Part} {l : List Stp} (hx : rng_part x) (h : allS l) (j : Nat) : allS (addHop i x l j) := by
  unfold addHop
  split
  · have := allS_get h (l.length - 1)
    exact allS_set h _ ⟨this.1, this.2.1, partOut_in hx j⟩
  · intro y hy
    rcases List.mem_append.1 hy with hy | hy
    · exact h y hy
    · rw [List.mem_singleton] at hy
      rw [hy]
      exact ⟨hopIa_in hx j, partIn_in hx j, partOut_in hx j⟩
theorem hopsTo_in {i : Nat} {x : Part} {l : List Stp} (hx : rng_part x) (h : allS l) : ∀ j, allS (hopsTo i x l j)
  | 0 => h
  | j + 1 => by rw [hopsTo_succ]; exact addHop_in hx (hopsTo_in hx h j) j
theorem rawSteps_in {p : Path} (hp : rng_path p) : ∀ k, allS (rawSteps p k)
  | 0 => fun y hy => by cases hy
  | k + 1 => by
    cases h : p[k]? with
    | none =>
      have e : rawSteps p (k + 1) = rawSteps p k := by
        unfold rawSteps; rw [List.range_succ, List.foldl_append]
        show addPart p _ k = _
        unfold addPart; rw [h]
      rw [e]
      exact rawSteps_in hp k
    | some x =>
      rw [rawSteps_succ h]
      exact hopsTo_in (hp x (List.mem_of_getElem? h)) (rawSteps_in hp k) _
theorem pathSteps_in {p : Path} (hp : rng_path p) : allS (pathSteps p) := by
  have h1 := rawSteps_in hp p.length
  have h2 : allS (cutFirst (rawSteps p p.length)) := by
    have := allS_get h1 0
    exact allS_set h1 _ ⟨this.1, in64_0, this.2.2⟩
  have := allS_get h2 ((cutFirst (rawSteps p p.length)).length - 1)
  exact allS_set h2 _ ⟨this.1, this.2.1, in64_0⟩

/-! ### Texts -/

def fmtAS (t : Topo) (r : Int) : List UInt8 := if isAS t r = true then match t.ases[r.toNat]? with
    | some x => (fmtI x.isd ++ [45]) ++ fmtI r
    | none => []
  else [63]
theorem fmtAS_len {t : Topo} {r : Int} (hg : rng_topo t) (hr : In64 r) : (fmtAS t r).length ≤ 43 := by
  unfold fmtAS
  split
  · split
    · rename_i x hx
      have h1 := (fmtI_len (hg.1 x (List.mem_of_getElem? hx)).1).2
      have h2 := (fmtI_len hr).2
      simp only [List.length_append, List.length_singleton]
      omega
    · simp
  · simp
def stepTxt (t : Topo) (s : Stp) : List UInt8 := (((fmtI s.ing ++ [62]) ++ fmtAS t s.ia) ++ [62]) ++ fmtI s.eg
theorem stepTxt_len {t : Topo} {s : Stp} (hg : rng_topo t) (hs : rng_step s) : (stepTxt t s).length ≤ 87 := by
  have h1 := (fmtI_len hs.2.1).2
  have h2 := (fmtI_len hs.2.2).2
  have h3 := fmtAS_len hg hs.1
  unfold stepTxt
  simp only [List.length_append, List.length_singleton]
  omega
/-- Texts with another between them. -/
def jn (b : List UInt8) : List (List UInt8) → List UInt8
  | [] => []
  | x :: t => x ++ t.flatMap (b ++ ·)
theorem jn_first (b x : List UInt8) : jn b ([] ++ [x]) = x := by simp [jn]
theorem jn_snoc (b x : List UInt8) {l : List (List UInt8)} (h : l ≠ []) : jn b (l ++ [x]) = (jn b l ++ b) ++ x := by
  cases l with
  | nil => exact absurd rfl h
  | cons a t => simp [jn]
theorem jn_len (b : List UInt8) (m : Nat) (l : List (List UInt8)) (h : ∀ x ∈ l, x.length ≤ m) : (jn b l).length ≤ (m + b.length) * l.length := by
  cases l with
  | nil => simp [jn]
  | cons a t =>
    have h1 := h a (by simp)
    have h2 := len_flat_le (b ++ ·) (m + b.length) t fun x hx => by
      have := h x (by simp [hx])
      rw [List.length_append]
      omega
    simp only [jn, List.length_append, List.length_cons, Nat.mul_add, Nat.mul_one]
    omega
def fmtPath (t : Topo) (p : Path) : List UInt8 := if (pathSteps p).length = 0 then [45] else jn [32] ((pathSteps p).map (stepTxt t))
theorem fmtPath_len {t : Topo} {p : Path} (hg : rng_topo t) (hp : rng_path p) (hz : sz_path p ≤ 1048576) : (fmtPath t p).length ≤ 100000000 := by
  unfold fmtPath
  split
  · simp
  · have h1 := jn_len [32] 87 ((pathSteps p).map (stepTxt t)) fun x hx => by
      obtain ⟨s, hs, rfl⟩ := List.mem_map.1 hx
      exact stepTxt_len hg (pathSteps_in hp s hs)
    rw [List.length_map] at h1
    have h2 := pathSteps_len p
    have : (87 + [(32 : UInt8)].length) * (pathSteps p).length ≤ 88 * 1048576 := Nat.mul_le_mul (by simp) (by omega)
    omega
theorem impl_FormatAS (t : Topo) (v : Value) (r : Int) (w : World) (h : VA topoT w v t) (hz : sz_topo t ≤ 1048576) (hg : rng_topo t) (hr : In64 r) : Calls Try.prog 170 #[v, I r] w fun e w' => e = .returned (Sv (fmtAS t r)) ∧ Below w.heap.size w w' := by
  have X0 := Below.refl w.heap.size w
  refine enter Try.func170 rfl Try.ntmps170 rfl ?_
  refine w_seq ?_
  refine w_region ?_
  refine t_boxr (by assumption) rfl ?_ rfl rfl
  intro p2 w1 x2 hp2
  replace h := h.below x2
  have X0 := ext_trans X0 x2
  have S := Sep.nil w1
  have B := Below.refl w1.heap.size w1
  have Hb := Nat.le_refl w1.heap.size
  refine t_assign rfl ?_ rfl
  refine t_done ?_
  refine x_seq ?_
  refine w_seq ?_
  refine w_seq ?_
  refine w_region ?_
  refine t_lda (by assumption) ab_topo sb_topo B rfl ?_ rfl
  intro v5 hv5
  obtain ⟨v5_0, v5_1, rfl, hv5_0, hv5_1⟩ := topo_va hv5
  refine t_move rfl ?_ rfl
  refine t_callx Try.call176 rfl (impl_isAS _ _ _ _ (by first | assumption | exact VA.below (by assumption) B | exact topo_mkv (by first | assumption | exact SlR.below (by assumption) B) (by first | assumption | exact SlR.below (by assumption) B)) (by omega)) ?_ rfl rfl
  intro w3 x4
  have B := bx Hb B x4
  have S := S.below x4
  refine t_notb rfl ?_ rfl
  refine t_done ?_
  refine x_seq ?_
  refine w_ifb rfl ?_ ?_
  · intro h1
    refine w_seq ?_
    refine w_region ?_
    refine t_assign rfl ?_ rfl
    refine t_done ?_
    refine x_seq ?_
    refine w_ret ?_
    refine x_then_ret ?_
    refine x_ret1 rfl rfl ?_
    exact ⟨ret_str (by unfold fmtAS; rw [if_neg (by simpa using h1)]), ext_trans X0 B⟩
  · intro h1
    have h1' : isAS t r = true := by simpa using h1
    have h2 := h1'
    unfold isAS at h2
    have h3 := inR_iff.1 h2
    obtain ⟨x, hx⟩ : ∃ e, t.ases[r.toNat]? = some e := getx (by omega)
    have hxi : In64 x.isd := (hg.1 x (List.mem_of_getElem? hx)).1
    have hl1 := (fmtI_len hxi).2
    have hl2 := (fmtI_len hr).2
    refine w_skip ?_
    refine x_seq ?_
    refine w_seq ?_
    refine w_region ?_
    refine t_fld ln_topo_0 (by assumption) fb_topo_0 rfl ?_ rfl
    intro p9 hp9
    refine t_lds (by assumption) ab_s_asn B rfl ?_ rfl
    intro v10 hv10
    refine t_move rfl ?_ rfl
    refine t_idx e_asn (k := r.toNat) (by assumption) hx B rfl rfl (by first | rfl | omega) ?_ rfl
    intro p12 hp12
    refine t_fld ln_asn_0 (by assumption) fb_asn_0 rfl ?_ rfl
    intro p13 hp13
    refine t_ldi (by assumption) ab_int B rfl ?_ rfl
    refine t_callx Try.call126 rfl (impl_FormatInt _ _ (by assumption)) ?_ rfl rfl
    intro w5 x6
    have B := bx Hb B x6
    have S := S.below x6
    refine t_cats rfl rfl (by first | omega | (simp; done) | (simp; omega)) ?_ rfl
    refine t_move rfl ?_ rfl
    refine t_callx Try.call126 rfl (impl_FormatInt _ _ (by assumption)) ?_ rfl rfl
    intro w7 x8
    have B := bx Hb B x8
    have S := S.below x8
    refine t_cats rfl rfl (by first | omega | (simp; done) | (simp; omega)) ?_ rfl
    refine t_assign rfl ?_ rfl
    refine t_done ?_
    refine x_seq ?_
    refine w_ret ?_
    refine x_ret1 rfl rfl ?_
    exact ⟨ret_str (by unfold fmtAS; rw [if_pos h1', hx]), ext_trans X0 B⟩
theorem spec_FormatAS (t : Topo) (v : Value) (r : Int) (w : World) (h : VA topoT w v t) (hz : sz_topo t ≤ 1048576) (hg : rng_topo t) (hr : In64 r) : Calls Try.prog 122 #[v, I r] w fun e w' => e = .returned (Sv (fmtAS t r)) ∧ Below w.heap.size w w' := by
  have X0 := Below.refl w.heap.size w
  refine enter Try.func122 rfl Try.ntmps122 rfl ?_
  refine w_seq ?_
  refine w_region ?_
  refine t_boxr (by assumption) rfl ?_ rfl rfl
  intro p2 w9 x10 hp2
  replace h := h.below x10
  have X0 := ext_trans X0 x10
  have S := Sep.nil w9
  have B := Below.refl w9.heap.size w9
  have Hb := Nat.le_refl w9.heap.size
  refine t_assign rfl ?_ rfl
  refine t_done ?_
  refine x_seq ?_
  refine w_seq ?_
  refine w_seq ?_
  refine w_region ?_
  refine t_lda (by assumption) ab_topo sb_topo B rfl ?_ rfl
  intro v5 hv5
  obtain ⟨v5_0, v5_1, rfl, hv5_0, hv5_1⟩ := topo_va hv5
  refine t_move rfl ?_ rfl
  refine t_callx Try.call131 rfl (spec_l5Realm _ _ _ _ (by first | assumption | exact VA.below (by assumption) B | exact topo_mkv (by first | assumption | exact SlR.below (by assumption) B) (by first | assumption | exact SlR.below (by assumption) B)) (by omega)) ?_ rfl rfl
  intro w11 x12
  have B := bx Hb B x12
  have S := S.below x12
  refine t_notb rfl ?_ rfl
  refine t_done ?_
  refine x_seq ?_
  refine w_ifb rfl ?_ ?_
  · intro h1
    refine w_seq ?_
    refine w_region ?_
    refine t_assign rfl ?_ rfl
    refine t_done ?_
    refine x_seq ?_
    refine w_ret ?_
    refine x_then_ret ?_
    refine x_ret1 rfl rfl ?_
    exact ⟨ret_str (by unfold fmtAS; rw [if_neg (by simpa using h1)]), ext_trans X0 B⟩
  · intro h1
    have h1' : isAS t r = true := by simpa using h1
    have h2 := h1'
    unfold isAS at h2
    have h3 := inR_iff.1 h2
    obtain ⟨x, hx⟩ : ∃ e, t.ases[r.toNat]? = some e := getx (by omega)
    have hxi : In64 x.isd := (hg.1 x (List.mem_of_getElem? hx)).1
    have hl1 := (fmtI_len hxi).2
    have hl2 := (fmtI_len hr).2
    refine w_skip ?_
    refine x_seq ?_
    refine w_seq ?_
    refine w_region ?_
    refine t_fld ln_topo_0 (by assumption) fb_topo_0 rfl ?_ rfl
    intro p9 hp9
    refine t_lds (by assumption) ab_s_asn B rfl ?_ rfl
    intro v10 hv10
    refine t_move rfl ?_ rfl
    refine t_idx e_asn (k := r.toNat) (by assumption) hx B rfl rfl (by first | rfl | omega) ?_ rfl
    intro p12 hp12
    refine t_fld ln_asn_0 (by assumption) fb_asn_0 rfl ?_ rfl
    intro p13 hp13
    refine t_ldi (by assumption) ab_int B rfl ?_ rfl
    refine t_callx Try.call121 rfl (spec_FormatInt _ _ (by assumption)) ?_ rfl rfl
    intro w13 x14
    have B := bx Hb B x14
    have S := S.below x14
    refine t_cats rfl rfl (by first | omega | (simp; done) | (simp; omega)) ?_ rfl
    refine t_move rfl ?_ rfl
    refine t_callx Try.call121 rfl (spec_FormatInt _ _ (by assumption)) ?_ rfl rfl
    intro w15 x16
    have B := bx Hb B x16
    have S := S.below x16
    refine t_cats rfl rfl (by first | omega | (simp; done) | (simp; omega)) ?_ rfl
    refine t_assign rfl ?_ rfl
    refine t_done ?_
    refine x_seq ?_
    refine w_ret ?_
    refine x_ret1 rfl rfl ?_
    exact ⟨ret_str (by unfold fmtAS; rw [if_pos h1', hx]), ext_trans X0 B⟩
theorem impl_formatSteps (t : Topo) (v : Value) (l : List Stp) (u : Value) (w : World) (h : VA topoT w v t) (h' : SlR stepT w u l) (hz : sz_topo t ≤ 1048576) (hg : rng_topo t) (hl : l.length ≤ 1048576) (hs : allS l) : Calls Try.prog 124 #[v, u] w fun e w' => ∃ v fp, e = .returned v ∧ SlO strT 9 w.heap.size w' v (l.map (stepTxt t)) fp ∧ Below w.heap.size w w' := by
  have X0 := Below.refl w.heap.size w
  refine enter Try.func124 rfl Try.ntmps124 rfl ?_
  refine w_seq ?_
  refine w_region ?_
  refine t_boxr (by assumption) rfl ?_ rfl rfl
  intro p2 w17 x18 hp2
  replace h := h.below x18
  replace h' := h'.below x18
  have X0 := ext_trans X0 x18
  have S := Sep.nil w17
  have B := Below.refl w17.heap.size w17
  have Hb := Nat.le_refl w17.heap.size
  refine t_assign rfl ?_ rfl
  refine t_done ?_
  refine x_seq ?_
  refine w_seq ?_
  refine w_region ?_
  refine t_assign rfl ?_ rfl
  refine t_done ?_
  refine x_seq ?_
  refine w_seq ?_
  refine w_seq ?_
  refine w_region ?_
  refine t_move rfl ?_ rfl
  refine t_len e_step (by assumption) rfl rfl ?_ rfl
  refine t_move rfl ?_ rfl
  refine t_done ?_
  refine x_seq ?_
  refine w_block ?_
  refine w_loop (X := Nat × List (List UInt8) × Value) (fun x wq => (fun k acc q => k ≤ l.length ∧ acc = (l.take k).map (stepTxt t) ∧ Below w17.heap.size w17 wq ∧ Sep w17.heap.size wq [slO strT 9 q acc]) x.1 x.2.1 x.2.2) (fun x => (fun k acc q => [(10, I ((k : Int))), (5, q), (2, p2), (4, .slice none 0 0), (8, u), (9, I ((l.length : Int)))]) x.1 x.2.1 x.2.2) (fun x => (fun k acc q => l.length - k) x.1 x.2.1 x.2.2) (0, [], .slice none 0 0) ?_ ⟨rfl, rfl, rfl, rfl, rfl, rfl, trivial⟩ ?_
  · exact ⟨by omega, rfl, B, S.addNil⟩
  · rintro ⟨k, acc, q⟩ w19 hI
    try dsimp only at hI ⊢
    obtain ⟨hk, ha, B, S⟩ := hI
    refine w_seq ?_
    refine w_region ?_
    refine t_lss rfl rfl ?_ rfl
    refine t_done ?_
    refine x_seq ?_
    refine w_seq ?_
    refine w_if rfl ?_ ?_
    · intro hlt
      obtain ⟨x, hx⟩ : ∃ e, l[k]? = some e := getx (by omega)
      have hxs := hs x (List.mem_of_getElem? hx)
      have hx1 := hxs.1
      have hx2 := hxs.2.1
      have hx3 := hxs.2.2
      have hl1 := (fmtI_len hx2).2
      have hl2 := (fmtI_len hx3).2
      have hl3 := fmtAS_len hg hx1
      have hal : acc.length = k := by rw [ha, List.length_map, List.length_take]; omega
      refine w_skip ?_
      refine x_seq ?_
      refine w_seq ?_
      refine w_block ?_
      refine w_seq ?_
      refine w_region ?_
      refine t_idx e_step (k := k) (by assumption) hx B rfl rfl (by first | rfl | omega) ?_ rfl
      intro p12 hp12
      refine t_lda (by assumption) ab_step sb_step B rfl ?_ rfl
      intro v13 hv13
      obtain rfl := step_va hv13
      refine t_alloc S z_step rfl ?_ rfl rfl
      intro g7 w20 x21 S
      have B := bx Hb B x21
      refine t_stn S sb_step rfl rfl rfl rfl (by simp [Value.oneCell']) ?_
      intro w22 b23 S
      have B := B.trans b23
      refine t_done ?_
      refine x_seq ?_
      refine w_draw (.st .take 0 (.st .take 1 (.st .take 2 (.st .take 5 (.st .take 6 (.st .take 7 (.st .take 11 (.st .take 12 (.st .run 3 (.st .take 4 (.st .run 8 (.st .take 9 (.st .take 10 (.st .run 13 (.st .take 14 (.st .run 15 (.st .fin 16 (.st .fin 17 .done)))))))))))))))))) mixed (by kernel_rfl) ?_
      intro w24 x25
      have B := bx Hb B x25
      have S := S.below x25
      refine t_move rfl ?_ rfl
      refine t_fldx fb_step_1 rfl rfl ?_ rfl
      refine t_bx1 S.box ab_int rfl rfl ?_ rfl
      refine t_lda (by assumption) ab_topo sb_topo B rfl ?_ rfl
      intro v19 hv19
      obtain ⟨v19_0, v19_1, rfl, hv19_0, hv19_1⟩ := topo_va hv19
      refine t_fldx fb_step_0 rfl rfl ?_ rfl
      refine t_bx1 S.box ab_int rfl rfl ?_ rfl
      refine t_fldx fb_step_2 rfl rfl ?_ rfl
      refine t_bx1 S.box ab_int rfl rfl ?_ rfl
      refine t_callx Try.call126 rfl (impl_FormatInt _ _ (by assumption)) ?_ rfl rfl
      intro w26 x27
      have B := bx Hb B x27
      have S := S.below x27
      refine t_cats rfl rfl (by first | omega | (simp; done) | (simp; omega)) ?_ rfl
      refine t_callx Try.call170 rfl (impl_FormatAS _ _ _ _ (by first | assumption | exact VA.below (by assumption) B | exact topo_mkv (by first | assumption | exact SlR.below (by assumption) B) (by first | assumption | exact SlR.below (by assumption) B)) (by omega) (by assumption) (by assumption)) ?_ rfl rfl
      intro w28 x29
      have B := bx Hb B x29
      have S := S.below x29
      refine t_cats rfl rfl (by first | omega | (simp; done) | (simp; omega)) ?_ rfl
      refine t_cats rfl rfl (by first | omega | (simp; done) | (simp; omega)) ?_ rfl
      refine t_callx Try.call126 rfl (impl_FormatInt _ _ (by assumption)) ?_ rfl rfl
      intro w30 x31
      have B := bx Hb B x31
      have S := S.below x31
      refine t_cats rfl rfl (by first | omega | (simp; done) | (simp; omega)) ?_ rfl
      refine t_lit (T := strT) (l := [((((fmtI x.ing) ++ ([62])) ++ (fmtAS t x.ia)) ++ ([62])) ++ (fmtI x.eg)]) (css := [[Sv (((((fmtI x.ing) ++ ([62])) ++ (fmtAS t x.ia)) ++ ([62])) ++ (fmtI x.eg))]]) str_flat S (fun w => bs_str1 _ w) rfl rfl rfl rfl (by simp [maxLen]) (litR_one fun _ => rfl) ?_ rfl rfl
      intro u29 w32 x33 S
      have B := bx Hb B x33
      have hR := S.sl
      have S := S.f2
      refine t_cat str_flat e_str S hR rfl rfl rfl (by first | omega | (simp [-List.length_flatMap]; omega)) (by (simp [maxLen, -List.length_flatMap]; try omega)) ?_ rfl
      intro v30 w34 x35 S
      have B := B.trans x35
      clear hR
      have S := S.f1
      have S := S.tail
      refine t_assign rfl ?_ rfl
      refine t_done' ?_
      refine x_block_normal ?_
      refine x_seq ?_
      refine w_region ?_
      refine t_add rfl rfl (by omega) ?_ rfl
      refine t_move rfl ?_ rfl
      refine t_done ?_
      have S := S.f1
      have S := S.tail
      refine x_round (X := Nat × List (List UInt8) × Value) (I := (fun x wq => (fun k acc q => k ≤ l.length ∧ acc = (l.take k).map (stepTxt t) ∧ Below w17.heap.size w17 wq ∧ Sep w17.heap.size wq [slO strT 9 q acc]) x.1 x.2.1 x.2.2)) (F := (fun x => (fun k acc q => [(10, I ((k : Int))), (5, q), (2, p2), (4, .slice none 0 0), (8, u), (9, I ((l.length : Int)))]) x.1 x.2.1 x.2.2)) (μ := (fun x => (fun k acc q => l.length - k) x.1 x.2.1 x.2.2)) (k + 1, acc ++ [stepTxt t x], v30) ?_ (by exact ⟨rfl, rfl, rfl, rfl, rfl, rfl, trivial⟩) (by (try dsimp only); omega)
      try dsimp only
      exact ⟨by omega, by rw [take_succ hx, List.map_append, ha]; rfl, B, S⟩
    · intro hge
      refine w_exit ?_
      refine x_then_exit ?_
      refine x_then_exit ?_
      refine x_block_exit ?_
      refine x_seq ?_
      refine w_seq ?_
      refine w_region ?_
      refine t_move rfl ?_ rfl
      refine t_assign rfl ?_ rfl
      refine t_done ?_
      refine x_seq ?_
      refine w_ret ?_
      refine x_ret1 rfl rfl ?_
      rw [List.take_of_length_le (by omega)] at ha
      rw [← ha]
      obtain ⟨fp, hO⟩ := (S.mono X0.size).head
      exact ⟨_, fp, rfl, hO, ext_trans X0 B⟩
theorem impl_joinTexts (l : List (List UInt8)) (u : Value) (b : List UInt8) (w : World) (h : SlR strT w u l) (hl : l.length ≤ 1048576) (hb : b.length ≤ 100) (hm : ∀ x ∈ l, x.length ≤ 100) : Calls Try.prog 169 #[u, Sv b] w fun e w' => e = .returned (Sv (jn b l)) ∧ Below w.heap.size w w' := by
  have X0 := Below.refl w.heap.size w
  refine enter Try.func169 rfl Try.ntmps169 rfl ?_
  refine w_seq ?_
  refine w_region ?_
  have S := Sep.nil w
  have B := Below.refl w.heap.size w
  have Hb := Nat.le_refl w.heap.size
  refine t_assign rfl ?_ rfl
  refine t_done ?_
  refine x_seq ?_
  refine w_seq ?_
  refine w_region ?_
  refine t_assign rfl ?_ rfl
  refine t_done ?_
  refine x_seq ?_
  refine w_seq ?_
  refine w_seq ?_
  refine w_region ?_
  refine t_move rfl ?_ rfl
  refine t_len e_str (by assumption) rfl rfl ?_ rfl
  refine t_move rfl ?_ rfl
  refine t_done ?_
  refine x_seq ?_
  refine w_block ?_
  refine w_loop (X := Nat × List UInt8) (fun x wq => (fun k s => k ≤ l.length ∧ s = jn b (l.take k) ∧ Below w.heap.size w wq ∧ Sep w.heap.size wq []) x.1 x.2) (fun x => (fun k s => [(10, I ((k : Int))), (5, Sv s), (1, Sv b), (4, Sv []), (8, u), (9, I ((l.length : Int)))]) x.1 x.2) (fun x => (fun k s => l.length - k) x.1 x.2) (0, []) ?_ ⟨rfl, rfl, rfl, rfl, rfl, rfl, trivial⟩ ?_
  · exact ⟨by omega, rfl, B, S⟩
  · rintro ⟨k, s⟩ w36 hI
    try dsimp only at hI ⊢
    obtain ⟨hk, ha, B, S⟩ := hI
    have hsl : s.length ≤ 209715200 := by
      have h1 := jn_len b 100 (l.take k) fun x hx => hm x (List.mem_of_mem_take hx)
      rw [← ha] at h1
      have h2 : (100 + b.length) * (l.take k).length ≤ 200 * 1048576 := Nat.mul_le_mul (by omega) (by rw [List.length_take]; omega)
      omega
    refine w_seq ?_
    refine w_region ?_
    refine t_lss rfl rfl ?_ rfl
    refine t_done ?_
    refine x_seq ?_
    refine w_seq ?_
    refine w_if rfl ?_ ?_
    · intro hlt
      obtain ⟨x, hx⟩ : ∃ e, l[k]? = some e := getx (by omega)
      have hxl := hm x (List.mem_of_getElem? hx)
      refine w_skip ?_
      refine x_seq ?_
      refine w_seq ?_
      refine w_block ?_
      refine w_seq ?_
      refine w_region ?_
      refine t_move rfl ?_ rfl
      refine t_idx e_str (k := k) (by assumption) hx B rfl rfl (by first | rfl | omega) ?_ rfl
      intro p13 hp13
      refine t_ldstr (by assumption) ab_str B rfl ?_ rfl
      refine t_assign rfl ?_ rfl
      refine t_assign rfl ?_ rfl
      refine t_done ?_
      refine x_seq ?_
      refine w_seq ?_
      refine w_seq ?_
      refine w_region ?_
      refine t_move rfl ?_ rfl
      refine t_gtr rfl rfl ?_ rfl
      refine t_done ?_
      refine x_seq ?_
      refine w_if rfl ?_ ?_
      · intro hk0
        refine w_region ?_
        refine t_move rfl ?_ rfl
        refine t_move rfl ?_ rfl
        refine t_cats rfl rfl (by first | omega | (simp; done) | (simp; omega)) ?_ rfl
        refine t_assign rfl ?_ rfl
        refine t_done ?_
        refine x_seq ?_
        refine w_region ?_
        refine t_move rfl ?_ rfl
        refine t_move rfl ?_ rfl
        refine t_cats rfl rfl (by first | omega | (simp; done) | (simp; omega)) ?_ rfl
        refine t_assign rfl ?_ rfl
        refine t_done ?_
        refine x_block_normal ?_
        refine x_seq ?_
        refine w_region ?_
        refine t_add rfl rfl (by omega) ?_ rfl
        refine t_move rfl ?_ rfl
        refine t_done ?_
        refine x_round (X := Nat × List UInt8) (I := (fun x wq => (fun k s => k ≤ l.length ∧ s = jn b (l.take k) ∧ Below w.heap.size w wq ∧ Sep w.heap.size wq []) x.1 x.2)) (F := (fun x => (fun k s => [(10, I ((k : Int))), (5, Sv s), (1, Sv b), (4, Sv []), (8, u), (9, I ((l.length : Int)))]) x.1 x.2)) (μ := (fun x => (fun k s => l.length - k) x.1 x.2)) (k + 1, (s ++ b) ++ x) ?_ (by exact ⟨rfl, rfl, rfl, rfl, rfl, rfl, trivial⟩) (by (try dsimp only); omega)
        try dsimp only
        refine ⟨by omega, ?_, B, S⟩
        rw [take_succ hx, jn_snoc b x (by intro h0; have h1 := congrArg List.length h0; rw [List.length_take, List.length_nil] at h1; omega), ← ha]
      · intro hk0
        have hk1 : k = 0 := by omega
        subst hk1
        refine w_skip ?_
        refine x_seq ?_
        refine w_region ?_
        refine t_move rfl ?_ rfl
        refine t_move rfl ?_ rfl
        refine t_cats rfl rfl (by first | omega | (simp; done) | (simp; omega)) ?_ rfl
        refine t_assign rfl ?_ rfl
        refine t_done ?_
        refine x_block_normal ?_
        refine x_seq ?_
        refine w_region ?_
        refine t_add rfl rfl (by omega) ?_ rfl
        refine t_move rfl ?_ rfl
        refine t_done ?_
        refine x_round (X := Nat × List UInt8) (I := (fun x wq => (fun k s => k ≤ l.length ∧ s = jn b (l.take k) ∧ Below w.heap.size w wq ∧ Sep w.heap.size wq []) x.1 x.2)) (F := (fun x => (fun k s => [(10, I ((k : Int))), (5, Sv s), (1, Sv b), (4, Sv []), (8, u), (9, I ((l.length : Int)))]) x.1 x.2)) (μ := (fun x => (fun k s => l.length - k) x.1 x.2)) (0 + 1, s ++ x) ?_ (by exact ⟨rfl, rfl, rfl, rfl, rfl, rfl, trivial⟩) (by (try dsimp only); omega)
        try dsimp only
        refine ⟨by omega, ?_, B, S⟩
        rw [take_succ hx, ha]
        exact (jn_first b x).symm
    · intro hge
      refine w_exit ?_
      refine x_then_exit ?_
      refine x_then_exit ?_
      refine x_block_exit ?_
      refine x_seq ?_
      refine w_seq ?_
      refine w_region ?_
      refine t_move rfl ?_ rfl
      refine t_assign rfl ?_ rfl
      refine t_done ?_
      refine x_seq ?_
      refine w_ret ?_
      refine x_ret1 rfl rfl ?_
      rw [List.take_of_length_le (by omega)] at ha
      exact ⟨ret_str ha, ext_trans X0 B⟩
theorem impl_spaced (l : List (List UInt8)) (u : Value) (w : World) (h : SlR strT w u l) (hl : l.length ≤ 1048576) (hm : ∀ x ∈ l, x.length ≤ 100) : Calls Try.prog 123 #[u] w fun e w' => e = .returned (Sv (if l.length = 0 then [45] else jn [32] l)) ∧ Below w.heap.size w w' := by
  have X0 := Below.refl w.heap.size w
  refine enter Try.func123 rfl Try.ntmps123 rfl ?_
  refine w_seq ?_
  refine w_region ?_
  have S := Sep.nil w
  have B := Below.refl w.heap.size w
  have Hb := Nat.le_refl w.heap.size
  refine t_assign rfl ?_ rfl
  refine t_done ?_
  refine x_seq ?_
  refine w_seq ?_
  refine w_seq ?_
  refine w_region ?_
  refine t_move rfl ?_ rfl
  refine t_len e_str (by assumption) rfl rfl ?_ rfl
  refine t_eql rfl rfl ?_ rfl
  refine t_done ?_
  refine x_seq ?_
  refine w_if rfl ?_ ?_
  · intro h0
    refine w_seq ?_
    refine w_region ?_
    refine t_assign rfl ?_ rfl
    refine t_done ?_
    refine x_seq ?_
    refine w_ret ?_
    refine x_then_ret ?_
    refine x_ret1 rfl rfl ?_
    exact ⟨ret_str (by rw [if_pos (by omega)]), ext_trans X0 B⟩
  · intro h0
    refine w_skip ?_
    refine x_seq ?_
    refine w_seq ?_
    refine w_region ?_
    refine t_move rfl ?_ rfl
    refine t_callx Try.call169 rfl (impl_joinTexts _ _ _ _ (by first | assumption | exact SlR.below (by assumption) B) (by omega) (by simp) (by assumption)) ?_ rfl rfl
    intro w37 x38
    have B := bx Hb B x38
    have S := S.below x38
    refine t_assign rfl ?_ rfl
    refine t_done ?_
    refine x_seq ?_
    refine w_ret ?_
    refine x_ret1 rfl rfl ?_
    exact ⟨ret_str (by rw [if_neg (by omega)]), ext_trans X0 B⟩
theorem impl_FormatPath (t : Topo) (v : Value) (p : Path) (u : Value) (w : World) (h : VA topoT w v t) (hp : VA pathT w u p) (hz : sz_topo t ≤ 1048576) (hgt : rng_topo t) (hz' : sz_path p ≤ 1048576) (hl : lenOk_path p) (hg : rng_path p) : Calls Try.prog 58 #[v, u] w fun e w' => e = .returned (Sv (fmtPath t p)) ∧ Below w.heap.size w w' := by
  have hsl := pathSteps_len p
  have hsi := pathSteps_in hg
  have hmx : ∀ x ∈ (pathSteps p).map (stepTxt t), x.length ≤ 100 := fun x hx => by
    obtain ⟨s, hs, rfl⟩ := List.mem_map.1 hx
    have := stepTxt_len hgt (hsi s hs)
    omega
  have X0 := Below.refl w.heap.size w
  refine enter Try.func58 rfl Try.ntmps58 rfl ?_
  refine w_seq ?_
  refine w_region ?_
  refine t_boxr (by assumption) rfl ?_ rfl rfl
  intro p2 w39 x40 hp2
  replace h := h.below x40
  replace hp := hp.below x40
  have X0 := ext_trans X0 x40
  refine t_boxr (by assumption) rfl ?_ rfl rfl
  intro p3 w41 x42 hp3
  replace h := h.below x42
  replace hp := hp.below x42
  replace hp2 := hp2.below x42
  have X0 := ext_trans X0 x42
  have S := Sep.nil w41
  have B := Below.refl w41.heap.size w41
  have Hb := Nat.le_refl w41.heap.size
  refine t_assign rfl ?_ rfl
  refine t_done ?_
  refine x_seq ?_
  refine w_seq ?_
  refine w_draw (.st .take 0 (.st .take 1 (.st .run 2 (.st .run 3 (.st .run 4 (.st .take 5 .done)))))) mixed (by kernel_rfl) ?_
  intro w43 x44
  have B := bx Hb B x44
  have S := S.below x44
  refine t_lda (by assumption) ab_topo sb_topo B rfl ?_ rfl
  intro v5 hv5
  obtain ⟨v5_0, v5_1, rfl, hv5_0, hv5_1⟩ := topo_va hv5
  refine t_lda (by assumption) ab_path sb_path B rfl ?_ rfl
  intro v6 hv6
  obtain ⟨v6_0, rfl, hv6_0⟩ := path_va hv6
  refine t_call Try.call125 rfl (va1 (by first | assumption | exact VA.below (by assumption) B | exact path_mkv (by first | assumption | exact SlR.below (by assumption) B)) fun cs h => impl_PathSteps _ cs _ h (by omega) (by assumption) (by assumption)) ?_ rfl rfl
  rintro e w45 ⟨v7, fpv7, rfl, hOv7, x46⟩
  refine ⟨_, rfl, x46, ?_⟩
  have S := S.add (o := slO _ _ _ _) x46 hOv7
  have B := bx Hb B x46
  refine t_call Try.call124 rfl (impl_formatSteps _ _ _ _ _ (by first | assumption | exact VA.below (by assumption) B | exact topo_mkv (by first | assumption | exact SlR.below (by assumption) B) (by first | assumption | exact SlR.below (by assumption) B)) (S.sl) (by omega) (by assumption) (by omega) (by assumption)) ?_ rfl rfl
  rintro e w47 ⟨v8, fpv8, rfl, hOv8, x48⟩
  refine ⟨_, rfl, x48, ?_⟩
  have S := S.add (o := slO _ _ _ _) x48 hOv8
  have B := bx Hb B x48
  refine t_callx Try.call123 rfl (impl_spaced _ _ _ (S.sl) (by rw [List.length_map]; omega) (by assumption)) ?_ rfl rfl
  intro w49 x50
  have B := bx Hb B x50
  have S := S.below x50
  refine t_assign rfl ?_ rfl
  refine t_done' ?_
  refine x_seq ?_
  refine w_ret ?_
  refine x_ret1 rfl rfl ?_
  exact ⟨ret_str (by unfold fmtPath; rw [List.length_map]), ext_trans X0 B⟩
theorem spec_FormatPath (t : Topo) (v : Value) (p : Path) (u : Value) (w : World) (h : VA topoT w v t) (hp : VA pathT w u p) (hz : sz_topo t ≤ 1048576) (hgt : rng_topo t) (hz' : sz_path p ≤ 1048576) (hl : lenOk_path p) (hg : rng_path p) : Calls Try.prog 57 #[v, u] w fun e w' => e = .returned (Sv (fmtPath t p)) ∧ Below w.heap.size w w' := by
  have hsl := pathSteps_len p
  have hsi := pathSteps_in hg
  have X0 := Below.refl w.heap.size w
  refine enter Try.func57 rfl Try.ntmps57 rfl ?_
  refine w_seq ?_
  refine w_region ?_
  refine t_boxr (by assumption) rfl ?_ rfl rfl
  intro p2 w51 x52 hp2
  replace h := h.below x52
  replace hp := hp.below x52
  have X0 := ext_trans X0 x52
  refine t_boxr (by assumption) rfl ?_ rfl rfl
  intro p3 w53 x54 hp3
  replace h := h.below x54
  replace hp := hp.below x54
  replace hp2 := hp2.below x54
  have X0 := ext_trans X0 x54
  have S := Sep.nil w53
  have B := Below.refl w53.heap.size w53
  have Hb := Nat.le_refl w53.heap.size
  refine t_assign rfl ?_ rfl
  refine t_done ?_
  refine x_seq ?_
  refine w_seq ?_
  refine w_region ?_
  refine t_assign rfl ?_ rfl
  refine t_done ?_
  refine x_seq ?_
  refine w_seq ?_
  refine w_region ?_
  refine t_lda (by assumption) ab_path sb_path B rfl ?_ rfl
  intro v8 hv8
  obtain ⟨v8_0, rfl, hv8_0⟩ := path_va hv8
  refine t_call Try.call120 rfl (va1 (by first | assumption | exact VA.below (by assumption) B | exact path_mkv (by first | assumption | exact SlR.below (by assumption) B)) fun cs h => spec_PathSteps _ cs _ h (by omega) (by assumption) (by assumption)) ?_ rfl rfl
  rintro e w55 ⟨v9, fpv9, rfl, hOv9, x56⟩
  refine ⟨_, rfl, x56, ?_⟩
  have S := S.add (o := slO _ _ _ _) x56 hOv9
  have B := bx Hb B x56
  refine t_assign rfl ?_ rfl
  refine t_done ?_
  refine x_seq ?_
  refine w_seq ?_
  refine w_seq ?_
  refine w_region ?_
  refine t_assign rfl ?_ rfl
  refine t_done ?_
  refine x_seq ?_
  refine w_block ?_
  refine w_loop (X := Nat × List UInt8) (fun x wq => (fun k s => k ≤ (pathSteps p).length ∧ s = jn [32] (((pathSteps p).take k).map (stepTxt t)) ∧ Below w53.heap.size w53 wq ∧ Sep w53.heap.size wq [slO stepT 131 v9 (pathSteps p)]) x.1 x.2) (fun x => (fun k s => [(7, I ((k : Int))), (5, Sv s), (2, p2), (4, Sv []), (6, v9)]) x.1 x.2) (fun x => (fun k s => (pathSteps p).length - k) x.1 x.2) (0, []) ?_ ⟨rfl, rfl, rfl, rfl, rfl, trivial⟩ ?_
  · exact ⟨by omega, rfl, B, S⟩
  · rintro ⟨k, s⟩ w57 hI
    try dsimp only at hI ⊢
    obtain ⟨hk, ha, B, S⟩ := hI
    have hsz : s.length ≤ 209715200 := by
      have h1 := jn_len [32] 100 (((pathSteps p).take k).map (stepTxt t)) fun x hx => by
        obtain ⟨s, hs, rfl⟩ := List.mem_map.1 hx
        have := stepTxt_len hgt (hsi s (List.mem_of_mem_take hs))
        omega
      rw [← ha] at h1
      have h2 : (100 + [(32 : UInt8)].length) * (((pathSteps p).take k).map (stepTxt t)).length ≤ 101 * 1048576 := Nat.mul_le_mul (by simp) (by rw [List.length_map, List.length_take]; omega)
      omega
    refine w_seq ?_
    refine w_seq ?_
    refine w_region ?_
    refine t_move rfl ?_ rfl
    refine t_move rfl ?_ rfl
    refine t_len e_step (S.sl) rfl rfl ?_ rfl
    refine t_lss rfl rfl ?_ rfl
    refine t_done ?_
    refine x_seq ?_
    refine w_if rfl ?_ ?_
    · intro hlt
      obtain ⟨x, hx⟩ : ∃ e, (pathSteps p)[k]? = some e := getx (by omega)
      have hxs := hsi x (List.mem_of_getElem? hx)
      have hx1 := hxs.1
      have hx2 := hxs.2.1
      have hx3 := hxs.2.2
      have hl1 := (fmtI_len hx2).2
      have hl2 := (fmtI_len hx3).2
      have hl3 := fmtAS_len hgt hx1
      refine w_skip ?_
      refine x_seq ?_
      refine w_seq ?_
      refine w_block ?_
      refine w_seq ?_
      refine w_seq ?_
      refine w_region ?_
      refine t_move rfl ?_ rfl
      refine t_gtr rfl rfl ?_ rfl
      refine t_done ?_
      refine x_seq ?_
      refine w_if rfl ?_ ?_
      · intro hk0
        refine w_region ?_
        refine t_move rfl ?_ rfl
        refine t_cats rfl rfl (by first | omega | (simp; done) | (simp; omega)) ?_ rfl
        refine t_assign rfl ?_ rfl
        refine t_done ?_
        refine x_seq ?_
        refine w_draw (.st .take 0 (.st .take 1 (.st .take 2 (.st .take 3 (.st .take 4 (.st .take 5 (.st .take 9 (.st .take 10 (.st .take 11 (.st .take 12 (.st .take 13 (.st .take 14 (.st .take 18 (.st .take 19 (.st .take 20 (.st .take 21 (.st .take 22 (.st .run 6 (.st .take 7 (.st .take 8 (.st .run 15 (.st .take 16 (.st .take 17 (.st .run 23 (.st .take 24 (.st .take 25 .done)))))))))))))))))))))))))) mixed (by kernel_rfl) ?_
        intro w58 x59
        have B := bx Hb B x59
        have S := S.below x59
        refine t_move rfl ?_ rfl
        refine t_move rfl ?_ rfl
        refine t_move rfl ?_ rfl
        refine t_idx e_step (k := k) (S.sl) hx (Below.refl _ _) rfl rfl (by first | rfl | omega) ?_ rfl
        intro p23 hp23
        refine t_fld ln_step_1 (by assumption) fb_step_1 rfl ?_ rfl
        intro p24 hp24
        refine t_ldi (by assumption) ab_int (Below.refl _ _) rfl ?_ rfl
        refine t_lda (by assumption) ab_topo sb_topo B rfl ?_ rfl
        intro v29 hv29
        obtain ⟨v29_0, v29_1, rfl, hv29_0, hv29_1⟩ := topo_va hv29
        refine t_move rfl ?_ rfl
        refine t_move rfl ?_ rfl
        refine t_idx e_step (k := k) (S.sl) hx (Below.refl _ _) rfl rfl (by first | rfl | omega) ?_ rfl
        intro p32 hp32
        refine t_fld ln_step_0 (by assumption) fb_step_0 rfl ?_ rfl
        intro p33 hp33
        refine t_ldi (by assumption) ab_int (Below.refl _ _) rfl ?_ rfl
        refine t_move rfl ?_ rfl
        refine t_move rfl ?_ rfl
        refine t_idx e_step (k := k) (S.sl) hx (Below.refl _ _) rfl rfl (by first | rfl | omega) ?_ rfl
        intro p40 hp40
        refine t_fld ln_step_2 (by assumption) fb_step_2 rfl ?_ rfl
        intro p41 hp41
        refine t_ldi (by assumption) ab_int (Below.refl _ _) rfl ?_ rfl
        refine t_callx Try.call121 rfl (spec_FormatInt _ _ (by assumption)) ?_ rfl rfl
        intro w60 x61
        have B := bx Hb B x61
        have S := S.below x61
        refine t_cats rfl rfl (by first | omega | (simp; done) | (simp; omega)) ?_ rfl
        refine t_cats rfl rfl (by first | omega | (simp; done) | (simp; omega)) ?_ rfl
        refine t_callx Try.call122 rfl (spec_FormatAS _ _ _ _ (by first | assumption | exact VA.below (by assumption) B | exact topo_mkv (by first | assumption | exact SlR.below (by assumption) B) (by first | assumption | exact SlR.below (by assumption) B)) (by omega) (by assumption) (by assumption)) ?_ rfl rfl
        intro w62 x63
        have B := bx Hb B x63
        have S := S.below x63
        refine t_cats rfl rfl (by first | omega | (simp; done) | (simp; omega)) ?_ rfl
        refine t_cats rfl rfl (by first | omega | (simp; done) | (simp; omega)) ?_ rfl
        refine t_callx Try.call121 rfl (spec_FormatInt _ _ (by assumption)) ?_ rfl rfl
        intro w64 x65
        have B := bx Hb B x65
        have S := S.below x65
        refine t_cats rfl rfl (by first | omega | (simp; done) | (simp; omega)) ?_ rfl
        refine t_assign rfl ?_ rfl
        refine t_done' ?_
        refine x_block_normal ?_
        refine x_seq ?_
        refine w_region ?_
        refine t_move rfl ?_ rfl
        refine t_add rfl rfl (by omega) ?_ rfl
        refine t_assign rfl ?_ rfl
        refine t_done ?_
        refine x_round (X := Nat × List UInt8) (I := (fun x wq => (fun k s => k ≤ (pathSteps p).length ∧ s = jn [32] (((pathSteps p).take k).map (stepTxt t)) ∧ Below w53.heap.size w53 wq ∧ Sep w53.heap.size wq [slO stepT 131 v9 (pathSteps p)]) x.1 x.2)) (F := (fun x => (fun k s => [(7, I ((k : Int))), (5, Sv s), (2, p2), (4, Sv []), (6, v9)]) x.1 x.2)) (μ := (fun x => (fun k s => (pathSteps p).length - k) x.1 x.2)) (k + 1, (((((s ++ ([32])) ++ (fmtI x.ing)) ++ ([62])) ++ (fmtAS t x.ia)) ++ ([62])) ++ (fmtI x.eg)) ?_ (by exact ⟨rfl, rfl, rfl, rfl, rfl, trivial⟩) (by (try dsimp only); omega)
        try dsimp only
        refine ⟨by omega, ?_, B, S⟩
        rw [take_succ hx, List.map_append, List.map_cons, List.map_nil, jn_snoc [32] (stepTxt t x) (by intro h0; have h1 := congrArg List.length h0; rw [List.length_map, List.length_take, List.length_nil] at h1; omega), ← ha]
        unfold stepTxt
        simp only [List.append_assoc]
      · intro hk0
        have hk1 : k = 0 := by omega
        refine w_skip ?_
        refine x_seq ?_
        refine w_draw (.st .take 0 (.st .take 1 (.st .take 2 (.st .take 3 (.st .take 4 (.st .take 5 (.st .take 9 (.st .take 10 (.st .take 11 (.st .take 12 (.st .take 13 (.st .take 14 (.st .take 18 (.st .take 19 (.st .take 20 (.st .take 21 (.st .take 22 (.st .run 6 (.st .take 7 (.st .take 8 (.st .run 15 (.st .take 16 (.st .take 17 (.st .run 23 (.st .take 24 (.st .take 25 .done)))))))))))))))))))))))))) mixed (by kernel_rfl) ?_
        intro w66 x67
        have B := bx Hb B x67
        have S := S.below x67
        refine t_move rfl ?_ rfl
        refine t_move rfl ?_ rfl
        refine t_move rfl ?_ rfl
        refine t_idx e_step (k := k) (S.sl) hx (Below.refl _ _) rfl rfl (by first | rfl | omega) ?_ rfl
        intro p23 hp23
        refine t_fld ln_step_1 (by assumption) fb_step_1 rfl ?_ rfl
        intro p24 hp24
        refine t_ldi (by assumption) ab_int (Below.refl _ _) rfl ?_ rfl
        refine t_lda (by assumption) ab_topo sb_topo B rfl ?_ rfl
        intro v29 hv29
        obtain ⟨v29_0, v29_1, rfl, hv29_0, hv29_1⟩ := topo_va hv29
        refine t_move rfl ?_ rfl
        refine t_move rfl ?_ rfl
        refine t_idx e_step (k := k) (S.sl) hx (Below.refl _ _) rfl rfl (by first | rfl | omega) ?_ rfl
        intro p32 hp32
        refine t_fld ln_step_0 (by assumption) fb_step_0 rfl ?_ rfl
        intro p33 hp33
        refine t_ldi (by assumption) ab_int (Below.refl _ _) rfl ?_ rfl
        refine t_move rfl ?_ rfl
        refine t_move rfl ?_ rfl
        refine t_idx e_step (k := k) (S.sl) hx (Below.refl _ _) rfl rfl (by first | rfl | omega) ?_ rfl
        intro p40 hp40
        refine t_fld ln_step_2 (by assumption) fb_step_2 rfl ?_ rfl
        intro p41 hp41
        refine t_ldi (by assumption) ab_int (Below.refl _ _) rfl ?_ rfl
        refine t_callx Try.call121 rfl (spec_FormatInt _ _ (by assumption)) ?_ rfl rfl
        intro w68 x69
        have B := bx Hb B x69
        have S := S.below x69
        refine t_cats rfl rfl (by first | omega | (simp; done) | (simp; omega)) ?_ rfl
        refine t_cats rfl rfl (by first | omega | (simp; done) | (simp; omega)) ?_ rfl
        refine t_callx Try.call122 rfl (spec_FormatAS _ _ _ _ (by first | assumption | exact VA.below (by assumption) B | exact topo_mkv (by first | assumption | exact SlR.below (by assumption) B) (by first | assumption | exact SlR.below (by assumption) B)) (by omega) (by assumption) (by assumption)) ?_ rfl rfl
        intro w70 x71
        have B := bx Hb B x71
        have S := S.below x71
        refine t_cats rfl rfl (by first | omega | (simp; done) | (simp; omega)) ?_ rfl
        refine t_cats rfl rfl (by first | omega | (simp; done) | (simp; omega)) ?_ rfl
        refine t_callx Try.call121 rfl (spec_FormatInt _ _ (by assumption)) ?_ rfl rfl
        intro w72 x73
        have B := bx Hb B x73
        have S := S.below x73
        refine t_cats rfl rfl (by first | omega | (simp; done) | (simp; omega)) ?_ rfl
        refine t_assign rfl ?_ rfl
        refine t_done' ?_
        refine x_block_normal ?_
        refine x_seq ?_
        refine w_region ?_
        refine t_move rfl ?_ rfl
        refine t_add rfl rfl (by omega) ?_ rfl
        refine t_assign rfl ?_ rfl
        refine t_done ?_
        refine x_round (X := Nat × List UInt8) (I := (fun x wq => (fun k s => k ≤ (pathSteps p).length ∧ s = jn [32] (((pathSteps p).take k).map (stepTxt t)) ∧ Below w53.heap.size w53 wq ∧ Sep w53.heap.size wq [slO stepT 131 v9 (pathSteps p)]) x.1 x.2)) (F := (fun x => (fun k s => [(7, I ((k : Int))), (5, Sv s), (2, p2), (4, Sv []), (6, v9)]) x.1 x.2)) (μ := (fun x => (fun k s => (pathSteps p).length - k) x.1 x.2)) (k + 1, ((((s ++ (fmtI x.ing)) ++ ([62])) ++ (fmtAS t x.ia)) ++ ([62])) ++ (fmtI x.eg)) ?_ (by exact ⟨rfl, rfl, rfl, rfl, rfl, trivial⟩) (by (try dsimp only); omega)
        try dsimp only
        refine ⟨by omega, ?_, B, S⟩
        have hs0 : s = [] := by rw [ha, hk1]; rfl
        rw [take_succ hx, hk1, List.take_zero, List.nil_append, List.map_cons, List.map_nil, hs0]
        show _ = jn [32] ([] ++ [stepTxt t x])
        rw [jn_first]
        unfold stepTxt
        simp only [List.append_assoc, List.nil_append]
    · intro hge
      rw [List.take_of_length_le (by omega)] at ha
      refine w_exit ?_
      refine x_then_exit ?_
      refine x_then_exit ?_
      refine x_block_exit ?_
      refine x_seq ?_
      refine w_seq ?_
      refine w_seq ?_
      refine w_region ?_
      refine t_move rfl ?_ rfl
      refine t_len e_step (S.sl) rfl rfl ?_ rfl
      refine t_eql rfl rfl ?_ rfl
      refine t_done ?_
      refine x_seq ?_
      refine w_if rfl ?_ ?_
      · intro h0
        refine w_seq ?_
        refine w_region ?_
        refine t_assign rfl ?_ rfl
        refine t_done ?_
        refine x_seq ?_
        refine w_ret ?_
        refine x_then_ret ?_
        refine x_ret1 rfl rfl ?_
        exact ⟨ret_str (by unfold fmtPath; rw [if_pos (by omega)]), ext_trans X0 B⟩
      · intro h0
        refine w_skip ?_
        refine x_seq ?_
        refine w_seq ?_
        refine w_region ?_
        refine t_move rfl ?_ rfl
        refine t_assign rfl ?_ rfl
        refine t_done ?_
        refine x_seq ?_
        refine w_ret ?_
        refine x_ret1 rfl rfl ?_
        exact ⟨ret_str (by unfold fmtPath; rw [if_neg (by omega), ha]), ext_trans X0 B⟩

/-! ### Packets -/

def pkName (k : Int) : List UInt8 := if k = 1 then [100, 97, 116, 97] else if k = 2 then [97, 99, 107] else if k = 3 then [114, 101, 118, 111, 99, 97, 116, 105, 111, 110] else []
def fmtPkt (t : Topo) (x : Pkt) : List UInt8 := (((pkName x.kind ++ [32]) ++ fmtI x.seq) ++ [32]) ++ fmtPath t x.path
theorem impl_FormatPacket (t : Topo) (v : Value) (x : Pkt) (u : Value) (w : World) (h : VA topoT w v t) (hp : VA pktT w u x) (hz : sz_topo t ≤ 1048576) (hgt : rng_topo t) (hz' : sz_pkt x ≤ 1048576) (hl : lenOk_pkt x) (hg : rng_pkt x) : Calls Try.prog 60 #[v, u] w fun e w' => e = .returned (Sv (fmtPkt t x)) ∧ Below w.heap.size w w' := by
  have hz1 : sz_path x.path ≤ 1048576 := by unfold sz_pkt at hz'; omega
  have hl1 := hl.1
  have hg1 := hg.2.2.2.1
  have hg2 : In64 x.seq := hg.2.2.2.2.2.2.2.2
  have hb1 := (fmtI_len hg2).2
  have hb2 := fmtPath_len hgt hg1 hz1
  have X0 := Below.refl w.heap.size w
  refine enter Try.func60 rfl Try.ntmps60 rfl ?_
  refine w_seq ?_
  refine w_region ?_
  refine t_boxr (by assumption) rfl ?_ rfl rfl
  intro p2 w74 x75 hp2
  replace h := h.below x75
  replace hp := hp.below x75
  have X0 := ext_trans X0 x75
  refine t_boxr (by assumption) rfl ?_ rfl rfl
  intro p3 w76 x77 hp3
  replace h := h.below x77
  replace hp := hp.below x77
  replace hp2 := hp2.below x77
  have X0 := ext_trans X0 x77
  have S := Sep.nil w76
  have B := Below.refl w76.heap.size w76
  have Hb := Nat.le_refl w76.heap.size
  refine t_assign rfl ?_ rfl
  refine t_done ?_
  refine x_seq ?_
  refine w_seq ?_
  refine w_region ?_
  refine t_assign rfl ?_ rfl
  refine t_done ?_
  refine x_seq ?_
  refine w_seq ?_
  refine w_seq ?_
  refine w_region ?_
  refine t_fld ln_pkt_0 (by assumption) fb_pkt_0 rfl ?_ rfl
  intro p6 hp6
  refine t_ldi (by assumption) ab_int B rfl ?_ rfl
  refine t_done ?_
  refine x_seq ?_
  refine w_block ?_
  refine w_seq ?_
  refine w_region ?_
  refine t_eql rfl rfl ?_ rfl
  refine t_assign rfl ?_ rfl
  refine t_done ?_
  refine x_seq ?_
  refine w_if rfl ?_ ?_
  · intro h1
    refine w_region ?_
    refine t_assign rfl ?_ rfl
    refine t_done ?_
    refine x_block_normal ?_
    refine x_seq ?_
    refine w_seq ?_
    refine w_draw (.st .take 0 (.st .take 1 (.st .take 2 (.st .take 3 (.st .take 7 (.st .take 8 (.st .take 9 (.st .run 4 (.st .take 5 (.st .take 6 (.st .run 10 (.st .take 11 (.st .take 12 .done))))))))))))) mixed (by kernel_rfl) ?_
    intro w78 x79
    have B := bx Hb B x79
    have S := S.below x79
    refine t_move rfl ?_ rfl
    refine t_cats rfl rfl (by first | omega | (simp; done) | (simp; omega)) ?_ rfl
    refine t_fld ln_pkt_8 (by assumption) fb_pkt_8 rfl ?_ rfl
    intro p16 hp16
    refine t_ldi (by assumption) ab_int B rfl ?_ rfl
    refine t_lda (by assumption) ab_topo sb_topo B rfl ?_ rfl
    intro v21 hv21
    obtain ⟨v21_0, v21_1, rfl, hv21_0, hv21_1⟩ := topo_va hv21
    refine t_fld ln_pkt_3 (by assumption) fb_pkt_3 rfl ?_ rfl
    intro p22 hp22
    refine t_lda (by assumption) ab_path sb_path B rfl ?_ rfl
    intro v23 hv23
    obtain ⟨v23_0, rfl, hv23_0⟩ := path_va hv23
    refine t_callx Try.call126 rfl (impl_FormatInt _ _ (by assumption)) ?_ rfl rfl
    intro w80 x81
    have B := bx Hb B x81
    have S := S.below x81
    refine t_cats rfl rfl (by first | omega | (simp; done) | (simp; omega)) ?_ rfl
    refine t_cats rfl rfl (by first | omega | (simp; done) | (simp; omega)) ?_ rfl
    refine t_callx Try.call58 rfl (impl_FormatPath _ _ _ _ _ (by first | assumption | exact VA.below (by assumption) B | exact topo_mkv (by first | assumption | exact SlR.below (by assumption) B) (by first | assumption | exact SlR.below (by assumption) B)) (by first | assumption | exact VA.below (by assumption) B | exact path_mkv (by first | assumption | exact SlR.below (by assumption) B)) (by omega) (by assumption) (by omega) (by assumption) (by assumption)) ?_ rfl rfl
    intro w82 x83
    have B := bx Hb B x83
    have S := S.below x83
    refine t_cats rfl rfl (by first | omega | (simp; done) | (simp; omega)) ?_ rfl
    refine t_assign rfl ?_ rfl
    refine t_done' ?_
    refine x_seq ?_
    refine w_ret ?_
    refine x_ret1 rfl rfl ?_
    exact ⟨ret_str (by unfold fmtPkt pkName; rw [if_pos h1]), ext_trans X0 B⟩
  · intro h1
    refine w_seq ?_
    refine w_region ?_
    refine t_eql rfl rfl ?_ rfl
    refine t_assign rfl ?_ rfl
    refine t_done ?_
    refine x_seq ?_
    refine w_if rfl ?_ ?_
    · intro h2
      refine w_region ?_
      refine t_assign rfl ?_ rfl
      refine t_done ?_
      refine x_block_normal ?_
      refine x_seq ?_
      refine w_seq ?_
      refine w_draw (.st .take 0 (.st .take 1 (.st .take 2 (.st .take 3 (.st .take 7 (.st .take 8 (.st .take 9 (.st .run 4 (.st .take 5 (.st .take 6 (.st .run 10 (.st .take 11 (.st .take 12 .done))))))))))))) mixed (by kernel_rfl) ?_
      intro w84 x85
      have B := bx Hb B x85
      have S := S.below x85
      refine t_move rfl ?_ rfl
      refine t_cats rfl rfl (by first | omega | (simp; done) | (simp; omega)) ?_ rfl
      refine t_fld ln_pkt_8 (by assumption) fb_pkt_8 rfl ?_ rfl
      intro p16 hp16
      refine t_ldi (by assumption) ab_int B rfl ?_ rfl
      refine t_lda (by assumption) ab_topo sb_topo B rfl ?_ rfl
      intro v21 hv21
      obtain ⟨v21_0, v21_1, rfl, hv21_0, hv21_1⟩ := topo_va hv21
      refine t_fld ln_pkt_3 (by assumption) fb_pkt_3 rfl ?_ rfl
      intro p22 hp22
      refine t_lda (by assumption) ab_path sb_path B rfl ?_ rfl
      intro v23 hv23
      obtain ⟨v23_0, rfl, hv23_0⟩ := path_va hv23
      refine t_callx Try.call126 rfl (impl_FormatInt _ _ (by assumption)) ?_ rfl rfl
      intro w86 x87
      have B := bx Hb B x87
      have S := S.below x87
      refine t_cats rfl rfl (by first | omega | (simp; done) | (simp; omega)) ?_ rfl
      refine t_cats rfl rfl (by first | omega | (simp; done) | (simp; omega)) ?_ rfl
      refine t_callx Try.call58 rfl (impl_FormatPath _ _ _ _ _ (by first | assumption | exact VA.below (by assumption) B | exact topo_mkv (by first | assumption | exact SlR.below (by assumption) B) (by first | assumption | exact SlR.below (by assumption) B)) (by first | assumption | exact VA.below (by assumption) B | exact path_mkv (by first | assumption | exact SlR.below (by assumption) B)) (by omega) (by assumption) (by omega) (by assumption) (by assumption)) ?_ rfl rfl
      intro w88 x89
      have B := bx Hb B x89
      have S := S.below x89
      refine t_cats rfl rfl (by first | omega | (simp; done) | (simp; omega)) ?_ rfl
      refine t_assign rfl ?_ rfl
      refine t_done' ?_
      refine x_seq ?_
      refine w_ret ?_
      refine x_ret1 rfl rfl ?_
      exact ⟨ret_str (by unfold fmtPkt pkName; rw [if_neg h1, if_pos h2]), ext_trans X0 B⟩
    · intro h2
      refine w_seq ?_
      refine w_region ?_
      refine t_eql rfl rfl ?_ rfl
      refine t_assign rfl ?_ rfl
      refine t_done ?_
      refine x_seq ?_
      refine w_if rfl ?_ ?_
      · intro h3
        refine w_region ?_
        refine t_assign rfl ?_ rfl
        refine t_done ?_
        refine x_block_normal ?_
        refine x_seq ?_
        refine w_seq ?_
        refine w_draw (.st .take 0 (.st .take 1 (.st .take 2 (.st .take 3 (.st .take 7 (.st .take 8 (.st .take 9 (.st .run 4 (.st .take 5 (.st .take 6 (.st .run 10 (.st .take 11 (.st .take 12 .done))))))))))))) mixed (by kernel_rfl) ?_
        intro w90 x91
        have B := bx Hb B x91
        have S := S.below x91
        refine t_move rfl ?_ rfl
        refine t_cats rfl rfl (by first | omega | (simp; done) | (simp; omega)) ?_ rfl
        refine t_fld ln_pkt_8 (by assumption) fb_pkt_8 rfl ?_ rfl
        intro p16 hp16
        refine t_ldi (by assumption) ab_int B rfl ?_ rfl
        refine t_lda (by assumption) ab_topo sb_topo B rfl ?_ rfl
        intro v21 hv21
        obtain ⟨v21_0, v21_1, rfl, hv21_0, hv21_1⟩ := topo_va hv21
        refine t_fld ln_pkt_3 (by assumption) fb_pkt_3 rfl ?_ rfl
        intro p22 hp22
        refine t_lda (by assumption) ab_path sb_path B rfl ?_ rfl
        intro v23 hv23
        obtain ⟨v23_0, rfl, hv23_0⟩ := path_va hv23
        refine t_callx Try.call126 rfl (impl_FormatInt _ _ (by assumption)) ?_ rfl rfl
        intro w92 x93
        have B := bx Hb B x93
        have S := S.below x93
        refine t_cats rfl rfl (by first | omega | (simp; done) | (simp; omega)) ?_ rfl
        refine t_cats rfl rfl (by first | omega | (simp; done) | (simp; omega)) ?_ rfl
        refine t_callx Try.call58 rfl (impl_FormatPath _ _ _ _ _ (by first | assumption | exact VA.below (by assumption) B | exact topo_mkv (by first | assumption | exact SlR.below (by assumption) B) (by first | assumption | exact SlR.below (by assumption) B)) (by first | assumption | exact VA.below (by assumption) B | exact path_mkv (by first | assumption | exact SlR.below (by assumption) B)) (by omega) (by assumption) (by omega) (by assumption) (by assumption)) ?_ rfl rfl
        intro w94 x95
        have B := bx Hb B x95
        have S := S.below x95
        refine t_cats rfl rfl (by first | omega | (simp; done) | (simp; omega)) ?_ rfl
        refine t_assign rfl ?_ rfl
        refine t_done' ?_
        refine x_seq ?_
        refine w_ret ?_
        refine x_ret1 rfl rfl ?_
        exact ⟨ret_str (by unfold fmtPkt pkName; rw [if_neg h1, if_neg h2, if_pos h3]), ext_trans X0 B⟩
      · intro h3
        refine w_skip ?_
        refine x_block_normal ?_
        refine x_seq ?_
        refine w_seq ?_
        refine w_draw (.st .take 0 (.st .take 1 (.st .take 2 (.st .take 3 (.st .take 7 (.st .take 8 (.st .take 9 (.st .run 4 (.st .take 5 (.st .take 6 (.st .run 10 (.st .take 11 (.st .take 12 .done))))))))))))) mixed (by kernel_rfl) ?_
        intro w96 x97
        have B := bx Hb B x97
        have S := S.below x97
        refine t_move rfl ?_ rfl
        refine t_cats rfl rfl (by first | omega | (simp; done) | (simp; omega)) ?_ rfl
        refine t_fld ln_pkt_8 (by assumption) fb_pkt_8 rfl ?_ rfl
        intro p16 hp16
        refine t_ldi (by assumption) ab_int B rfl ?_ rfl
        refine t_lda (by assumption) ab_topo sb_topo B rfl ?_ rfl
        intro v21 hv21
        obtain ⟨v21_0, v21_1, rfl, hv21_0, hv21_1⟩ := topo_va hv21
        refine t_fld ln_pkt_3 (by assumption) fb_pkt_3 rfl ?_ rfl
        intro p22 hp22
        refine t_lda (by assumption) ab_path sb_path B rfl ?_ rfl
        intro v23 hv23
        obtain ⟨v23_0, rfl, hv23_0⟩ := path_va hv23
        refine t_callx Try.call126 rfl (impl_FormatInt _ _ (by assumption)) ?_ rfl rfl
        intro w98 x99
        have B := bx Hb B x99
        have S := S.below x99
        refine t_cats rfl rfl (by first | omega | (simp; done) | (simp; omega)) ?_ rfl
        refine t_cats rfl rfl (by first | omega | (simp; done) | (simp; omega)) ?_ rfl
        refine t_callx Try.call58 rfl (impl_FormatPath _ _ _ _ _ (by first | assumption | exact VA.below (by assumption) B | exact topo_mkv (by first | assumption | exact SlR.below (by assumption) B) (by first | assumption | exact SlR.below (by assumption) B)) (by first | assumption | exact VA.below (by assumption) B | exact path_mkv (by first | assumption | exact SlR.below (by assumption) B)) (by omega) (by assumption) (by omega) (by assumption) (by assumption)) ?_ rfl rfl
        intro w100 x101
        have B := bx Hb B x101
        have S := S.below x101
        refine t_cats rfl rfl (by first | omega | (simp; done) | (simp; omega)) ?_ rfl
        refine t_assign rfl ?_ rfl
        refine t_done' ?_
        refine x_seq ?_
        refine w_ret ?_
        refine x_ret1 rfl rfl ?_
        exact ⟨ret_str (by unfold fmtPkt pkName; rw [if_neg h1, if_neg h2, if_neg h3]), ext_trans X0 B⟩
theorem spec_FormatPacket (t : Topo) (v : Value) (x : Pkt) (u : Value) (w : World) (h : VA topoT w v t) (hp : VA pktT w u x) (hz : sz_topo t ≤ 1048576) (hgt : rng_topo t) (hz' : sz_pkt x ≤ 1048576) (hl : lenOk_pkt x) (hg : rng_pkt x) : Calls Try.prog 59 #[v, u] w fun e w' => e = .returned (Sv (fmtPkt t x)) ∧ Below w.heap.size w w' := by
  have hz1 : sz_path x.path ≤ 1048576 := by unfold sz_pkt at hz'; omega
  have hl1 := hl.1
  have hg1 := hg.2.2.2.1
  have hg2 : In64 x.seq := hg.2.2.2.2.2.2.2.2
  have hb1 := (fmtI_len hg2).2
  have hb2 := fmtPath_len hgt hg1 hz1
  have X0 := Below.refl w.heap.size w
  refine enter Try.func59 rfl Try.ntmps59 rfl ?_
  refine w_seq ?_
  refine w_region ?_
  refine t_boxr (by assumption) rfl ?_ rfl rfl
  intro p2 w102 x103 hp2
  replace h := h.below x103
  replace hp := hp.below x103
  have X0 := ext_trans X0 x103
  refine t_boxr (by assumption) rfl ?_ rfl rfl
  intro p3 w104 x105 hp3
  replace h := h.below x105
  replace hp := hp.below x105
  replace hp2 := hp2.below x105
  have X0 := ext_trans X0 x105
  have S := Sep.nil w104
  have B := Below.refl w104.heap.size w104
  have Hb := Nat.le_refl w104.heap.size
  refine t_assign rfl ?_ rfl
  refine t_done ?_
  refine x_seq ?_
  refine w_seq ?_
  refine w_region ?_
  refine t_assign rfl ?_ rfl
  refine t_done ?_
  refine x_seq ?_
  refine w_seq ?_
  refine w_seq ?_
  refine w_region ?_
  refine t_fld ln_pkt_0 (by assumption) fb_pkt_0 rfl ?_ rfl
  intro p6 hp6
  refine t_ldi (by assumption) ab_int B rfl ?_ rfl
  refine t_done ?_
  refine x_seq ?_
  refine w_block ?_
  refine w_seq ?_
  refine w_region ?_
  refine t_eql rfl rfl ?_ rfl
  refine t_assign rfl ?_ rfl
  refine t_done ?_
  refine x_seq ?_
  refine w_if rfl ?_ ?_
  · intro h1
    refine w_region ?_
    refine t_assign rfl ?_ rfl
    refine t_done ?_
    refine x_block_normal ?_
    refine x_seq ?_
    refine w_seq ?_
    refine w_draw (.st .take 0 (.st .take 1 (.st .take 2 (.st .take 3 (.st .take 7 (.st .take 8 (.st .take 9 (.st .run 4 (.st .take 5 (.st .take 6 (.st .run 10 (.st .take 11 (.st .take 12 .done))))))))))))) mixed (by kernel_rfl) ?_
    intro w106 x107
    have B := bx Hb B x107
    have S := S.below x107
    refine t_move rfl ?_ rfl
    refine t_cats rfl rfl (by first | omega | (simp; done) | (simp; omega)) ?_ rfl
    refine t_fld ln_pkt_8 (by assumption) fb_pkt_8 rfl ?_ rfl
    intro p16 hp16
    refine t_ldi (by assumption) ab_int B rfl ?_ rfl
    refine t_lda (by assumption) ab_topo sb_topo B rfl ?_ rfl
    intro v21 hv21
    obtain ⟨v21_0, v21_1, rfl, hv21_0, hv21_1⟩ := topo_va hv21
    refine t_fld ln_pkt_3 (by assumption) fb_pkt_3 rfl ?_ rfl
    intro p22 hp22
    refine t_lda (by assumption) ab_path sb_path B rfl ?_ rfl
    intro v23 hv23
    obtain ⟨v23_0, rfl, hv23_0⟩ := path_va hv23
    refine t_callx Try.call121 rfl (spec_FormatInt _ _ (by assumption)) ?_ rfl rfl
    intro w108 x109
    have B := bx Hb B x109
    have S := S.below x109
    refine t_cats rfl rfl (by first | omega | (simp; done) | (simp; omega)) ?_ rfl
    refine t_cats rfl rfl (by first | omega | (simp; done) | (simp; omega)) ?_ rfl
    refine t_callx Try.call57 rfl (spec_FormatPath _ _ _ _ _ (by first | assumption | exact VA.below (by assumption) B | exact topo_mkv (by first | assumption | exact SlR.below (by assumption) B) (by first | assumption | exact SlR.below (by assumption) B)) (by first | assumption | exact VA.below (by assumption) B | exact path_mkv (by first | assumption | exact SlR.below (by assumption) B)) (by omega) (by assumption) (by omega) (by assumption) (by assumption)) ?_ rfl rfl
    intro w110 x111
    have B := bx Hb B x111
    have S := S.below x111
    refine t_cats rfl rfl (by first | omega | (simp; done) | (simp; omega)) ?_ rfl
    refine t_assign rfl ?_ rfl
    refine t_done' ?_
    refine x_seq ?_
    refine w_ret ?_
    refine x_ret1 rfl rfl ?_
    exact ⟨ret_str (by unfold fmtPkt pkName; rw [if_pos h1]), ext_trans X0 B⟩
  · intro h1
    refine w_seq ?_
    refine w_region ?_
    refine t_eql rfl rfl ?_ rfl
    refine t_assign rfl ?_ rfl
    refine t_done ?_
    refine x_seq ?_
    refine w_if rfl ?_ ?_
    · intro h2
      refine w_region ?_
      refine t_assign rfl ?_ rfl
      refine t_done ?_
      refine x_block_normal ?_
      refine x_seq ?_
      refine w_seq ?_
      refine w_draw (.st .take 0 (.st .take 1 (.st .take 2 (.st .take 3 (.st .take 7 (.st .take 8 (.st .take 9 (.st .run 4 (.st .take 5 (.st .take 6 (.st .run 10 (.st .take 11 (.st .take 12 .done))))))))))))) mixed (by kernel_rfl) ?_
      intro w112 x113
      have B := bx Hb B x113
      have S := S.below x113
      refine t_move rfl ?_ rfl
      refine t_cats rfl rfl (by first | omega | (simp; done) | (simp; omega)) ?_ rfl
      refine t_fld ln_pkt_8 (by assumption) fb_pkt_8 rfl ?_ rfl
      intro p16 hp16
      refine t_ldi (by assumption) ab_int B rfl ?_ rfl
      refine t_lda (by assumption) ab_topo sb_topo B rfl ?_ rfl
      intro v21 hv21
      obtain ⟨v21_0, v21_1, rfl, hv21_0, hv21_1⟩ := topo_va hv21
      refine t_fld ln_pkt_3 (by assumption) fb_pkt_3 rfl ?_ rfl
      intro p22 hp22
      refine t_lda (by assumption) ab_path sb_path B rfl ?_ rfl
      intro v23 hv23
      obtain ⟨v23_0, rfl, hv23_0⟩ := path_va hv23
      refine t_callx Try.call121 rfl (spec_FormatInt _ _ (by assumption)) ?_ rfl rfl
      intro w114 x115
      have B := bx Hb B x115
      have S := S.below x115
      refine t_cats rfl rfl (by first | omega | (simp; done) | (simp; omega)) ?_ rfl
      refine t_cats rfl rfl (by first | omega | (simp; done) | (simp; omega)) ?_ rfl
      refine t_callx Try.call57 rfl (spec_FormatPath _ _ _ _ _ (by first | assumption | exact VA.below (by assumption) B | exact topo_mkv (by first | assumption | exact SlR.below (by assumption) B) (by first | assumption | exact SlR.below (by assumption) B)) (by first | assumption | exact VA.below (by assumption) B | exact path_mkv (by first | assumption | exact SlR.below (by assumption) B)) (by omega) (by assumption) (by omega) (by assumption) (by assumption)) ?_ rfl rfl
      intro w116 x117
      have B := bx Hb B x117
      have S := S.below x117
      refine t_cats rfl rfl (by first | omega | (simp; done) | (simp; omega)) ?_ rfl
      refine t_assign rfl ?_ rfl
      refine t_done' ?_
      refine x_seq ?_
      refine w_ret ?_
      refine x_ret1 rfl rfl ?_
      exact ⟨ret_str (by unfold fmtPkt pkName; rw [if_neg h1, if_pos h2]), ext_trans X0 B⟩
    · intro h2
      refine w_seq ?_
      refine w_region ?_
      refine t_eql rfl rfl ?_ rfl
      refine t_assign rfl ?_ rfl
      refine t_done ?_
      refine x_seq ?_
      refine w_if rfl ?_ ?_
      · intro h3
        refine w_region ?_
        refine t_assign rfl ?_ rfl
        refine t_done ?_
        refine x_block_normal ?_
        refine x_seq ?_
        refine w_seq ?_
        refine w_draw (.st .take 0 (.st .take 1 (.st .take 2 (.st .take 3 (.st .take 7 (.st .take 8 (.st .take 9 (.st .run 4 (.st .take 5 (.st .take 6 (.st .run 10 (.st .take 11 (.st .take 12 .done))))))))))))) mixed (by kernel_rfl) ?_
        intro w118 x119
        have B := bx Hb B x119
        have S := S.below x119
        refine t_move rfl ?_ rfl
        refine t_cats rfl rfl (by first | omega | (simp; done) | (simp; omega)) ?_ rfl
        refine t_fld ln_pkt_8 (by assumption) fb_pkt_8 rfl ?_ rfl
        intro p16 hp16
        refine t_ldi (by assumption) ab_int B rfl ?_ rfl
        refine t_lda (by assumption) ab_topo sb_topo B rfl ?_ rfl
        intro v21 hv21
        obtain ⟨v21_0, v21_1, rfl, hv21_0, hv21_1⟩ := topo_va hv21
        refine t_fld ln_pkt_3 (by assumption) fb_pkt_3 rfl ?_ rfl
        intro p22 hp22
        refine t_lda (by assumption) ab_path sb_path B rfl ?_ rfl
        intro v23 hv23
        obtain ⟨v23_0, rfl, hv23_0⟩ := path_va hv23
        refine t_callx Try.call121 rfl (spec_FormatInt _ _ (by assumption)) ?_ rfl rfl
        intro w120 x121
        have B := bx Hb B x121
        have S := S.below x121
        refine t_cats rfl rfl (by first | omega | (simp; done) | (simp; omega)) ?_ rfl
        refine t_cats rfl rfl (by first | omega | (simp; done) | (simp; omega)) ?_ rfl
        refine t_callx Try.call57 rfl (spec_FormatPath _ _ _ _ _ (by first | assumption | exact VA.below (by assumption) B | exact topo_mkv (by first | assumption | exact SlR.below (by assumption) B) (by first | assumption | exact SlR.below (by assumption) B)) (by first | assumption | exact VA.below (by assumption) B | exact path_mkv (by first | assumption | exact SlR.below (by assumption) B)) (by omega) (by assumption) (by omega) (by assumption) (by assumption)) ?_ rfl rfl
        intro w122 x123
        have B := bx Hb B x123
        have S := S.below x123
        refine t_cats rfl rfl (by first | omega | (simp; done) | (simp; omega)) ?_ rfl
        refine t_assign rfl ?_ rfl
        refine t_done' ?_
        refine x_seq ?_
        refine w_ret ?_
        refine x_ret1 rfl rfl ?_
        exact ⟨ret_str (by unfold fmtPkt pkName; rw [if_neg h1, if_neg h2, if_pos h3]), ext_trans X0 B⟩
      · intro h3
        refine w_skip ?_
        refine x_block_normal ?_
        refine x_seq ?_
        refine w_seq ?_
        refine w_draw (.st .take 0 (.st .take 1 (.st .take 2 (.st .take 3 (.st .take 7 (.st .take 8 (.st .take 9 (.st .run 4 (.st .take 5 (.st .take 6 (.st .run 10 (.st .take 11 (.st .take 12 .done))))))))))))) mixed (by kernel_rfl) ?_
        intro w124 x125
        have B := bx Hb B x125
        have S := S.below x125
        refine t_move rfl ?_ rfl
        refine t_cats rfl rfl (by first | omega | (simp; done) | (simp; omega)) ?_ rfl
        refine t_fld ln_pkt_8 (by assumption) fb_pkt_8 rfl ?_ rfl
        intro p16 hp16
        refine t_ldi (by assumption) ab_int B rfl ?_ rfl
        refine t_lda (by assumption) ab_topo sb_topo B rfl ?_ rfl
        intro v21 hv21
        obtain ⟨v21_0, v21_1, rfl, hv21_0, hv21_1⟩ := topo_va hv21
        refine t_fld ln_pkt_3 (by assumption) fb_pkt_3 rfl ?_ rfl
        intro p22 hp22
        refine t_lda (by assumption) ab_path sb_path B rfl ?_ rfl
        intro v23 hv23
        obtain ⟨v23_0, rfl, hv23_0⟩ := path_va hv23
        refine t_callx Try.call121 rfl (spec_FormatInt _ _ (by assumption)) ?_ rfl rfl
        intro w126 x127
        have B := bx Hb B x127
        have S := S.below x127
        refine t_cats rfl rfl (by first | omega | (simp; done) | (simp; omega)) ?_ rfl
        refine t_cats rfl rfl (by first | omega | (simp; done) | (simp; omega)) ?_ rfl
        refine t_callx Try.call57 rfl (spec_FormatPath _ _ _ _ _ (by first | assumption | exact VA.below (by assumption) B | exact topo_mkv (by first | assumption | exact SlR.below (by assumption) B) (by first | assumption | exact SlR.below (by assumption) B)) (by first | assumption | exact VA.below (by assumption) B | exact path_mkv (by first | assumption | exact SlR.below (by assumption) B)) (by omega) (by assumption) (by omega) (by assumption) (by assumption)) ?_ rfl rfl
        intro w128 x129
        have B := bx Hb B x129
        have S := S.below x129
        refine t_cats rfl rfl (by first | omega | (simp; done) | (simp; omega)) ?_ rfl
        refine t_assign rfl ?_ rfl
        refine t_done' ?_
        refine x_seq ?_
        refine w_ret ?_
        refine x_ret1 rfl rfl ?_
        exact ⟨ret_str (by unfold fmtPkt pkName; rw [if_neg h1, if_neg h2, if_neg h3]), ext_trans X0 B⟩
end Go.Proofs.Ytfgobdejlfojiaa
