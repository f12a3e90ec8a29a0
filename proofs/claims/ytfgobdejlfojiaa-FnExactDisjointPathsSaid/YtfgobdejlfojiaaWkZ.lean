/- SortPaths, of the program and of the reference. -/
import Derived.Test.YtfgobdejlfojiaaEng3
import Derived.Test.YtfgobdejlfojiaaWkT
import Derived.Test.YtfgobdejlfojiaaWkE
import Derived.Test.YtfgobdejlfojiaaMarks3
namespace Go.Proofs.Ytfgobdejlfojiaa
open Go.RowKit
set_option linter.unusedVariables false
set_option maxRecDepth 20000

/-- The place for a path among sorted ones, sought from place k downward. -/
def insK (p : Path) (out : List Path) : Nat → Nat
  | 0 => 0
  | k + 1 => match out[k]? with
    | none => k + 1
    | some x => if better p x = true then insK p out k else k + 1
def insP (out : List Path) (p : Path) : List Path := (out.take (insK p out out.length) ++ [p]) ++ out.drop (insK p out out.length)
def sortP (l : List Path) : List Path := l.foldl insP []
theorem insK_le (p : Path) (out : List Path) : ∀ k, insK p out k ≤ k
  | 0 => Nat.le_refl _
  | k + 1 => by
    rw [insK]
    split
    · exact Nat.le_refl _
    · split
      · exact Nat.le_succ_of_le (insK_le p out k)
      · exact Nat.le_refl _
theorem insK_yes {p x : Path} {out : List Path} {k : Nat} (h : out[k]? = some x) (hb : better p x = true) : insK p out (k + 1) = insK p out k := by rw [insK, h]; simp only [if_pos hb]
theorem insK_no {p x : Path} {out : List Path} {k : Nat} (h : out[k]? = some x) (hb : better p x = false) : insK p out (k + 1) = k + 1 := by rw [insK, h]; simp only [hb]; rfl
theorem sz_paths_app (a b : List Path) : sz_paths (a ++ b) = sz_paths a + sz_paths b := by
  unfold sz_paths
  rw [List.length_append, List.map_append, List.sum_append]
  omega
theorem sz_paths_one (p : Path) : sz_paths [p] = 1 + sz_path p := by simp [sz_paths]
theorem sz_paths_cut (l : List Path) (k : Nat) : sz_paths (l.take k) + sz_paths (l.drop k) = sz_paths l := by rw [← sz_paths_app, List.take_append_drop]
theorem insP_sz (out : List Path) (p : Path) : sz_paths (insP out p) = sz_paths out + 1 + sz_path p := by
  unfold insP
  rw [sz_paths_app, sz_paths_app, sz_paths_one]
  have := sz_paths_cut out (insK p out out.length)
  omega
theorem insP_len (out : List Path) (p : Path) : (insP out p).length = out.length + 1 := by
  unfold insP
  have := insK_le p out out.length
  simp only [List.length_append, List.length_take, List.length_drop, List.length_singleton]
  omega
theorem insP_mem {out : List Path} {p x : Path} : x ∈ insP out p ↔ x ∈ out ∨ x = p := by
  unfold insP
  simp only [List.mem_append, List.mem_singleton]
  constructor
  · rintro ((h | h) | h)
    · exact .inl (List.mem_of_mem_take h)
    · exact .inr h
    · exact .inl (List.mem_of_mem_drop h)
  · rintro (h | h)
    · rw [← List.take_append_drop (insK p out out.length) out, List.mem_append] at h
      rcases h with h | h
      · exact .inl (.inl h)
      · exact .inr h
    · exact .inl (.inr h)
theorem sortP_snoc {l : List Path} {k : Nat} {x : Path} (h : l[k]? = some x) : sortP (l.take (k + 1)) = insP (sortP (l.take k)) x := by
  unfold sortP
  rw [take_succ h, List.foldl_append]
  rfl
theorem sortP_all (l : List Path) : sz_paths (sortP l) = sz_paths l ∧ (sortP l).length = l.length ∧ ∀ x, x ∈ sortP l ↔ x ∈ l := by
  suffices H : ∀ n (l : List Path), l.length = n → sz_paths (sortP l) = sz_paths l ∧ (sortP l).length = l.length ∧ ∀ x, x ∈ sortP l ↔ x ∈ l from H _ l rfl
  intro n
  induction n with
  | zero =>
    intro l hl
    rw [List.eq_nil_of_length_eq_zero hl]
    exact ⟨rfl, rfl, fun x => Iff.rfl⟩
  | succ n ih =>
    intro l hl
    rcases List.eq_nil_or_concat l with h1 | ⟨t, x, h1⟩
    · rw [h1] at hl; cases hl
    · rw [List.concat_eq_append] at h1
      subst h1
      have hi := ih t (by simp at hl; exact hl)
      have e : sortP (t ++ [x]) = insP (sortP t) x := by unfold sortP; rw [List.foldl_append]; rfl
      rw [e, insP_sz, insP_len, sz_paths_app, sz_paths_one, hi.1, hi.2.1]
      refine ⟨by omega, by simp, fun y => ?_⟩
      rw [insP_mem, hi.2.2, List.mem_append, List.mem_singleton]
set_option maxHeartbeats 1000000 in
theorem impl_SortPaths (l : List Path) (v : Value) (w : World) (h : SlR pathT w v l) (hz : sz_paths l ≤ 1048576) (hl : ∀ x ∈ l, lenOk_path x) (hg : ∀ x ∈ l, rng_path x) : Calls Try.prog 51 #[v] w fun e w' => ∃ v fp, e = .returned v ∧ SlO pathT 39 w.heap.size w' v (sortP l) fp ∧ Below w.heap.size w w' := by
  have hll : l.length ≤ 1048576 := by unfold sz_paths at hz; omega
  have X0 := Below.refl w.heap.size w
  refine enter Try.func51 rfl Try.ntmps51 rfl ?_
  refine w_seq ?_
  refine w_region ?_
  have S := Sep.nil w
  have B := Below.refl w.heap.size w
  have Hb := Nat.le_refl w.heap.size
  refine t_assign rfl ?_ rfl
  refine t_done ?_
  refine x_seq ?_
  refine w_seq ?_
  refine w_region ?_
  refine t_assign rfl ?_ rfl
  refine t_done ?_
  refine x_seq ?_
  refine w_seq ?_
  refine w_seq ?_
  refine w_region ?_
  refine t_move rfl ?_ rfl
  refine t_len e_path (by assumption) rfl rfl ?_ rfl
  refine t_move rfl ?_ rfl
  refine t_done ?_
  refine x_seq ?_
  refine w_block ?_
  refine w_loop (X := Nat × List Path × Value) (fun x wq => (fun k out u => k ≤ l.length ∧ out = sortP (l.take k) ∧ Below w.heap.size w wq ∧ Sep w.heap.size wq [slO pathT 39 u out]) x.1 x.2.1 x.2.2) (fun x => (fun k out u => [(9, I ((k : Int))), (3, u), (2, .slice none 0 0), (7, v), (8, I ((l.length : Int)))]) x.1 x.2.1 x.2.2) (fun x => (fun k out u => l.length - k) x.1 x.2.1 x.2.2) (0, [], .slice none 0 0) ?_ ⟨rfl, rfl, rfl, rfl, rfl, trivial⟩ ?_
  · exact ⟨by omega, rfl, B, S.addNil⟩
  · rintro ⟨k, out, u⟩ w1 hI
    try dsimp only at hI ⊢
    obtain ⟨hk, ho, B, S⟩ := hI
    refine w_seq ?_
    refine w_region ?_
    refine t_lss rfl rfl ?_ rfl
    refine t_done ?_
    refine x_seq ?_
    refine w_seq ?_
    refine w_if rfl ?_ ?_
    · intro hlt
      obtain ⟨x, hx⟩ : ∃ e, l[k]? = some e := getx (by omega)
      have hxm := List.mem_of_getElem? hx
      have hzx := sz_paths_mem hxm
      have hlx := hl x hxm
      have hgx := hg x hxm
      have hso := sortP_all (l.take k)
      rw [← ho] at hso
      have hol : out.length = k := by rw [hso.2.1, List.length_take]; omega
      have hom : ∀ y ∈ out, y ∈ l := fun y hy => List.mem_of_mem_take ((hso.2.2 y).1 hy)
      have hst := sortP_snoc hx
      rw [← ho] at hst
      refine w_skip ?_
      refine x_seq ?_
      refine w_seq ?_
      refine w_block ?_
      refine w_seq ?_
      refine w_region ?_
      refine t_idx e_path (k := k) (by assumption) hx B rfl rfl (by first | rfl | omega) ?_ rfl
      intro p11 hp11
      refine t_lda (by assumption) ab_path sb_path B rfl ?_ rfl
      intro v12 hv12
      obtain ⟨v12_0, rfl, hv12_0⟩ := path_va hv12
      refine t_alloc S z_path rfl ?_ rfl rfl
      intro g5 w2 x3 S
      have B := bx Hb B x3
      refine t_stn S sb_path rfl rfl rfl rfl (by intro zz hu; have hu : zz ∈ ([v12_0] : List Value) := hu; simp only [List.mem_cons, List.not_mem_nil, or_false] at hu; rcases hu with rfl <;> first | rfl | exact (SlR.cells (by first | assumption | exact S.tail.sl | exact S.tail.tail.sl | exact S.tail.tail.tail.sl | exact S.tail.tail.tail.tail.sl | exact S.tail.tail.tail.tail.tail.sl | exact S.tail.tail.tail.tail.tail.tail.sl | exact S.tail.tail.tail.tail.tail.tail.tail.sl | exact S.tail.tail.tail.tail.tail.tail.tail.tail.sl)).2) ?_
      intro w4 b5 S
      have B := B.trans b5
      refine t_done ?_
      refine x_seq ?_
      refine w_seq ?_
      refine w_region ?_
      refine t_move rfl ?_ rfl
      refine t_len e_path (S.tail.sl) rfl rfl ?_ rfl
      refine t_assign rfl ?_ rfl
      refine t_done ?_
      refine x_seq ?_
      refine w_seq ?_
      refine w_block ?_
      refine w_loop (X := Int) (fun j wq => (0 : Int) ≤ j ∧ j ≤ out.length ∧ insK x out j.toNat = insK x out out.length ∧ Below w.heap.size w wq ∧ Sep w.heap.size wq [bxO g5 39 #[v12_0], slO pathT 39 u out]) (fun j => [(6, I j), (9, I ((k : Int))), (3, u), (2, .slice none 0 0), (7, v), (8, I ((l.length : Int))), (5, .pointer (some ⟨g5, 0, none⟩))]) (fun j => j.toNat) ((out.length : Int)) ?_ ⟨rfl, rfl, rfl, rfl, rfl, rfl, rfl, trivial⟩ ?_
      · exact ⟨Int.natCast_nonneg _, Int.le_refl _, rfl, B, S⟩
      · rintro j w6 hI
        try dsimp only at hI ⊢
        obtain ⟨hj, hj2, hq, B, S⟩ := hI
        refine w_seq ?_
        refine w_seq ?_
        refine w_draw (.st .take 0 (.st .take 1 (.st .take 2 (.st .take 3 (.st .take 4 (.st .take 5 (.st .take 6 (.st .take 7 (.st .take 8 (.st .run 9 (.st .take 10 .done))))))))))) mixed (by kernel_rfl) ?_
        intro w7 x8
        have B := bx Hb B x8
        have S := S.below x8
        refine t_move rfl ?_ rfl
        refine t_gtr rfl rfl ?_ rfl
        refine t_move rfl ?_ rfl
        refine t_partp (t := 17) rfl ?_ ?_
        · intro hj0
          obtain ⟨y, hy⟩ : ∃ e, out[j.toNat - 1]? = some e := getx (by omega)
          have hym := hom y (List.mem_of_getElem? hy)
          have hzy := sz_paths_mem hym
          have hly := hl y hym
          have hgy := hg y hym
          have hj1 : j.toNat = (j.toNat - 1) + 1 := by omega
          have hj3 : (j - 1).toNat = j.toNat - 1 := by omega
          refine t_on rfl rfl ?_
          refine t_bxn S.box ab_path sb_path rfl rfl ?_ rfl
          refine t_on rfl rfl ?_
          refine t_move rfl ?_ rfl
          refine t_on rfl rfl ?_
          refine t_move rfl ?_ rfl
          refine t_on rfl rfl ?_
          refine t_sub rfl rfl (by omega) ?_ rfl
          refine t_on rfl rfl ?_
          refine t_idx e_path (k := (j.toNat - 1)) (S.tail.sl) hy (Below.refl _ _) rfl rfl (by first | rfl | omega) ?_ rfl
          intro p22 hp22
          refine t_on rfl rfl ?_
          refine t_lda (by assumption) ab_path sb_path (Below.refl _ _) rfl ?_ rfl
          intro v23 hv23
          obtain ⟨v23_0, rfl, hv23_0⟩ := path_va hv23
          refine t_on rfl rfl ?_
          refine t_callx Try.call117 rfl (impl_BetterPath _ _ _ _ _ (by first | assumption | exact VA.below (by assumption) B | exact path_mkv (by first | assumption | exact SlR.below (by assumption) B)) (by first | assumption | exact VA.below (by assumption) B | exact path_mkv (by first | assumption | exact SlR.below (by assumption) B)) (by omega) (by assumption) (by assumption) (by omega) (by assumption) (by assumption)) ?_ rfl rfl
          intro w9 x10
          have B := bx Hb B x10
          have S := S.below x10
          replace hv23_0 := hv23_0.below x10
          refine t_pickt rfl rfl ?_ rfl
          refine t_done' ?_
          refine x_seq ?_
          refine w_ifb rfl ?_ ?_
          · intro hb
            refine w_skip ?_
            refine x_seq ?_
            refine w_block ?_
            refine w_region ?_
            refine t_move rfl ?_ rfl
            refine t_sub rfl rfl (by omega) ?_ rfl
            refine t_assign rfl ?_ rfl
            refine t_done ?_
            refine x_block_normal ?_
            refine x_round (I := (fun j wq => (0 : Int) ≤ j ∧ j ≤ out.length ∧ insK x out j.toNat = insK x out out.length ∧ Below w.heap.size w wq ∧ Sep w.heap.size wq [bxO g5 39 #[v12_0], slO pathT 39 u out])) (F := (fun j => [(6, I j), (9, I ((k : Int))), (3, u), (2, .slice none 0 0), (7, v), (8, I ((l.length : Int))), (5, .pointer (some ⟨g5, 0, none⟩))])) (μ := (fun j => j.toNat)) (j - 1) ?_ (by exact ⟨rfl, rfl, rfl, rfl, rfl, rfl, rfl, trivial⟩) (by (try dsimp only); omega)
            try dsimp only
            refine ⟨by omega, by omega, ?_, B, S⟩
            rw [hj3, ← insK_yes hy hb, ← hj1]
            exact hq
          · intro hb
            have hK : insK x out out.length = j.toNat := by rw [← hq, hj1, insK_no hy hb]
            obtain ⟨Au, cu, rfl, _⟩ := S.tail.sl.form
            have S := S.f1
            obtain ⟨cssR, hlR, haR, S⟩ := S.unrow
            have hnR := S.tail.rowLen
            have S := S.elsCut j.toNat
            refine w_exit ?_
            refine x_then_exit ?_
            refine x_then_exit ?_
            refine x_block_exit ?_
            refine x_seq ?_
            refine w_drawP [1, 2, 3, 9, 10, 11] (.st .take 5 (.st .run 0 (.st .run 4 (.st .run 6 (.st .run 7 (.st .fin 8 (.st .fin 12 (.st .fin 13 .done)))))))) mixed (by kernel_rfl) ?_
            intro w11 x12
            have B := bx Hb B x12
            have S := S.below x12
            replace hv23_0 := hv23_0.below x12
            refine p_move rfl ?_ rfl
            refine p_move rfl ?_ rfl
            refine p_sltv e_path (k := j.toNat) rfl rfl (by first | rfl | omega) (by omega) ?_ rfl
            refine p_move rfl ?_ rfl
            refine p_move rfl ?_ rfl
            refine p_sldv e_path (k := j.toNat) rfl rfl (by first | rfl | omega) (by omega) (by omega) ?_ rfl
            refine p_done ?_
            refine t_bxn S.tail.tail.tail.box ab_path sb_path rfl rfl ?_ rfl
            refine t_lit0 (T := pathT) S bs_path0 rfl ?_ rfl rfl
            intro A28 w13 x14 S
            have B := bx Hb B x14
            have S := S.f1
            have S := S.f1
            refine t_mv0 e_path S (S.tail.tail.tail.rowTake haR j.toNat) (by first | (simp; done) | (simp; omega)) rfl rfl rfl (by first | omega | (simp; done) | (simp; omega)) (by first | (simp [maxLen]; done) | (simp [maxLen]; omega)) ?_ rfl
            intro v32 w15 x16 S
            have B := bx Hb B x16
            refine t_call Try.call103 rfl (impl_copyPath _ _ _ (by first | assumption | exact VA.below (by assumption) B | exact path_mkv (by first | assumption | exact SlR.below (by assumption) B)) (by omega)) ?_ rfl rfl
            rintro e w17 ⟨cs34, fp34, rfl, hO34, x18⟩
            refine ⟨_, rfl, x18, ?_⟩
            have S := S.add (o := tyO pathT _ _) x18 hO34
            have B := bx Hb B x18
            obtain ⟨u34_0, heq, S2⟩ := S.pathOpen
            subst heq
            have S := S2
            clear S2
            refine t_lit1 (fun w => bs_path1 _ w) rfl ?_ rfl rfl
            intro A35 w19 x20 hA35
            have B := bx Hb B x20
            have S := S.below x20
            have S := S.pathShut (x := x)
            have S := S.f1
            refine t_snoc e_path S hA35 rfl rfl rfl (by first | omega | (simp; done) | (simp; omega)) (by (simp only [maxLen]); first | omega | (simp; done) | (simp; omega)) ?_ rfl
            intro v36 w21 x22 S
            have B := B.trans x22
            have S := S.f1
            have S := S.f1
            refine t_mv e_path S (S.tail.tail.rowDrop haR j.toNat) (by first | (simp; done) | (simp; omega)) rfl rfl rfl (by first | omega | (simp; done) | (simp; omega)) (by first | (simp [maxLen]; done) | (simp [maxLen]; omega)) ?_ rfl
            intro v40 w23 x24 S
            have B := B.trans x24
            refine t_assign rfl ?_ rfl
            refine t_done' ?_
            refine x_block_normal ?_
            refine x_seq ?_
            refine w_region ?_
            refine t_add rfl rfl (by omega) ?_ rfl
            refine t_move rfl ?_ rfl
            refine t_done ?_
            have S := S.f1
            have S := S.tail
            have S := S.f1
            have S := S.tail
            refine x_round (I := (fun x wq => (fun k out u => k ≤ l.length ∧ out = sortP (l.take k) ∧ Below w.heap.size w wq ∧ Sep w.heap.size wq [slO pathT 39 u out]) x.1 x.2.1 x.2.2)) (F := (fun x => (fun k out u => [(9, I ((k : Int))), (3, u), (2, .slice none 0 0), (7, v), (8, I ((l.length : Int)))]) x.1 x.2.1 x.2.2)) (μ := (fun x => (fun k out u => l.length - k) x.1 x.2.1 x.2.2)) (k + 1, (([] ++ out.take j.toNat) ++ [x]) ++ out.drop j.toNat, v40) ?_ (by exact ⟨rfl, rfl, rfl, rfl, rfl, trivial⟩) (by (try dsimp only); omega)
            try dsimp only
            exact ⟨by omega, by rw [hst, insP, hK, List.nil_append], B, S⟩
        · intro hj0
          have hj1 : j.toNat = 0 := by omega
          have hK : insK x out out.length = j.toNat := by rw [← hq, hj1]; rfl
          obtain ⟨Au, cu, rfl, _⟩ := S.tail.sl.form
          have S := S.f1
          obtain ⟨cssR, hlR, haR, S⟩ := S.unrow
          have hnR := S.tail.rowLen
          have S := S.elsCut j.toNat
          refine t_off rfl rfl rfl ?_ rfl
          refine t_off rfl rfl rfl ?_ rfl
          refine t_off rfl rfl rfl ?_ rfl
          refine t_off rfl rfl rfl ?_ rfl
          refine t_off rfl rfl rfl ?_ rfl
          refine t_off rfl rfl rfl ?_ rfl
          refine t_off rfl rfl rfl ?_ rfl
          refine t_pickf rfl rfl ?_ rfl
          refine t_done' ?_
          refine x_seq ?_
          refine w_no rfl ?_
          refine w_exit ?_
          refine x_then_exit ?_
          refine x_then_exit ?_
          refine x_block_exit ?_
          refine x_seq ?_
          refine w_drawP [1, 2, 3, 9, 10, 11] (.st .take 5 (.st .run 0 (.st .run 4 (.st .run 6 (.st .run 7 (.st .fin 8 (.st .fin 12 (.st .fin 13 .done)))))))) mixed (by kernel_rfl) ?_
          intro w25 x26
          have B := bx Hb B x26
          have S := S.below x26
          refine p_move rfl ?_ rfl
          refine p_move rfl ?_ rfl
          refine p_sltv e_path (k := j.toNat) rfl rfl (by first | rfl | omega) (by omega) ?_ rfl
          refine p_move rfl ?_ rfl
          refine p_move rfl ?_ rfl
          refine p_sldv e_path (k := j.toNat) rfl rfl (by first | rfl | omega) (by omega) (by omega) ?_ rfl
          refine p_done ?_
          refine t_bxn S.tail.tail.tail.box ab_path sb_path rfl rfl ?_ rfl
          refine t_lit0 (T := pathT) S bs_path0 rfl ?_ rfl rfl
          intro A28 w27 x28 S
          have B := bx Hb B x28
          have S := S.f1
          have S := S.f1
          refine t_mv0 e_path S (S.tail.tail.tail.rowTake haR j.toNat) (by first | (simp; done) | (simp; omega)) rfl rfl rfl (by first | omega | (simp; done) | (simp; omega)) (by first | (simp [maxLen]; done) | (simp [maxLen]; omega)) ?_ rfl
          intro v32 w29 x30 S
          have B := bx Hb B x30
          refine t_call Try.call103 rfl (impl_copyPath _ _ _ (by first | assumption | exact VA.below (by assumption) B | exact path_mkv (by first | assumption | exact SlR.below (by assumption) B)) (by omega)) ?_ rfl rfl
          rintro e w31 ⟨cs34, fp34, rfl, hO34, x32⟩
          refine ⟨_, rfl, x32, ?_⟩
          have S := S.add (o := tyO pathT _ _) x32 hO34
          have B := bx Hb B x32
          obtain ⟨u34_0, heq, S2⟩ := S.pathOpen
          subst heq
          have S := S2
          clear S2
          refine t_lit1 (fun w => bs_path1 _ w) rfl ?_ rfl rfl
          intro A35 w33 x34 hA35
          have B := bx Hb B x34
          have S := S.below x34
          have S := S.pathShut (x := x)
          have S := S.f1
          refine t_snoc e_path S hA35 rfl rfl rfl (by first | omega | (simp; done) | (simp; omega)) (by (simp only [maxLen]); first | omega | (simp; done) | (simp; omega)) ?_ rfl
          intro v36 w35 x36 S
          have B := B.trans x36
          have S := S.f1
          have S := S.f1
          refine t_mv e_path S (S.tail.tail.rowDrop haR j.toNat) (by first | (simp; done) | (simp; omega)) rfl rfl rfl (by first | omega | (simp; done) | (simp; omega)) (by first | (simp [maxLen]; done) | (simp [maxLen]; omega)) ?_ rfl
          intro v40 w37 x38 S
          have B := B.trans x38
          refine t_assign rfl ?_ rfl
          refine t_done' ?_
          refine x_block_normal ?_
          refine x_seq ?_
          refine w_region ?_
          refine t_add rfl rfl (by omega) ?_ rfl
          refine t_move rfl ?_ rfl
          refine t_done ?_
          have S := S.f1
          have S := S.tail
          have S := S.f1
          have S := S.tail
          refine x_round (I := (fun x wq => (fun k out u => k ≤ l.length ∧ out = sortP (l.take k) ∧ Below w.heap.size w wq ∧ Sep w.heap.size wq [slO pathT 39 u out]) x.1 x.2.1 x.2.2)) (F := (fun x => (fun k out u => [(9, I ((k : Int))), (3, u), (2, .slice none 0 0), (7, v), (8, I ((l.length : Int)))]) x.1 x.2.1 x.2.2)) (μ := (fun x => (fun k out u => l.length - k) x.1 x.2.1 x.2.2)) (k + 1, (([] ++ out.take j.toNat) ++ [x]) ++ out.drop j.toNat, v40) ?_ (by exact ⟨rfl, rfl, rfl, rfl, rfl, trivial⟩) (by (try dsimp only); omega)
          try dsimp only
          exact ⟨by omega, by rw [hst, insP, hK, List.nil_append], B, S⟩
    · intro hge
      refine w_exit ?_
      refine x_then_exit ?_
      refine x_then_exit ?_
      refine x_block_exit ?_
      refine x_seq ?_
      refine w_seq ?_
      refine w_region ?_
      refine t_move rfl ?_ rfl
      refine t_assign rfl ?_ rfl
      refine t_done ?_
      refine x_seq ?_
      refine w_ret ?_
      refine x_ret1 rfl rfl ?_
      obtain ⟨fp, hO⟩ := (S.mono X0.size).head
      rw [List.take_of_length_le (by omega)] at ho
      rw [← ho]
      exact ⟨_, fp, rfl, hO, ext_trans X0 B⟩
set_option maxHeartbeats 1000000 in
theorem spec_SortPaths (l : List Path) (v : Value) (w : World) (h : SlR pathT w v l) (hz : sz_paths l ≤ 1048576) (hl : ∀ x ∈ l, lenOk_path x) (hg : ∀ x ∈ l, rng_path x) : Calls Try.prog 49 #[v] w fun e w' => ∃ v fp, e = .returned v ∧ SlO pathT 39 w.heap.size w' v (sortP l) fp ∧ Below w.heap.size w w' := by
  have hll : l.length ≤ 1048576 := by unfold sz_paths at hz; omega
  have X0 := Below.refl w.heap.size w
  refine enter Try.func49 rfl Try.ntmps49 rfl ?_
  refine w_seq ?_
  refine w_region ?_
  have S := Sep.nil w
  have B := Below.refl w.heap.size w
  have Hb := Nat.le_refl w.heap.size
  refine t_assign rfl ?_ rfl
  refine t_done ?_
  refine x_seq ?_
  refine w_seq ?_
  refine w_region ?_
  refine t_lit0 (T := pathT) S bs_path0 rfl ?_ rfl rfl
  intro A7 w39 x40 S
  have B := bx Hb B x40
  refine t_assign rfl ?_ rfl
  refine t_done ?_
  refine x_seq ?_
  refine w_seq ?_
  refine w_seq ?_
  refine w_region ?_
  refine t_assign rfl ?_ rfl
  refine t_done ?_
  refine x_seq ?_
  refine w_block ?_
  refine w_loop (X := Nat × List Path × Value) (fun x wq => (fun k out u => k ≤ l.length ∧ out = sortP (l.take k) ∧ Below w.heap.size w wq ∧ Sep w.heap.size wq [slO pathT 39 u out]) x.1 x.2.1 x.2.2) (fun x => (fun k out u => [(4, I ((k : Int))), (3, u), (0, v), (2, .slice none 0 0)]) x.1 x.2.1 x.2.2) (fun x => (fun k out u => l.length - k) x.1 x.2.1 x.2.2) (0, [], .slice A7 0 0) ?_ ⟨rfl, rfl, rfl, rfl, trivial⟩ ?_
  · exact ⟨by omega, rfl, B, S⟩
  · rintro ⟨k, out, u⟩ w41 hI
    try dsimp only at hI ⊢
    obtain ⟨hk, ho, B, S⟩ := hI
    refine w_seq ?_
    refine w_seq ?_
    refine w_region ?_
    refine t_move rfl ?_ rfl
    refine t_move rfl ?_ rfl
    refine t_len e_path (by assumption) rfl rfl ?_ rfl
    refine t_lss rfl rfl ?_ rfl
    refine t_done ?_
    refine x_seq ?_
    refine w_if rfl ?_ ?_
    · intro hlt
      obtain ⟨x, hx⟩ : ∃ e, l[k]? = some e := getx (by omega)
      have hxm := List.mem_of_getElem? hx
      have hzx := sz_paths_mem hxm
      have hlx := hl x hxm
      have hgx := hg x hxm
      have hso := sortP_all (l.take k)
      rw [← ho] at hso
      have hol : out.length = k := by rw [hso.2.1, List.length_take]; omega
      have hom : ∀ y ∈ out, y ∈ l := fun y hy => List.mem_of_mem_take ((hso.2.2 y).1 hy)
      have hst := sortP_snoc hx
      rw [← ho] at hst
      refine w_skip ?_
      refine x_seq ?_
      refine w_seq ?_
      refine w_block ?_
      refine w_seq ?_
      refine w_region ?_
      refine t_move rfl ?_ rfl
      refine t_len e_path (S.sl) rfl rfl ?_ rfl
      refine t_assign rfl ?_ rfl
      refine t_done ?_
      refine x_seq ?_
      refine w_seq ?_
      refine w_block ?_
      refine w_loop (X := Int) (fun j wq => (0 : Int) ≤ j ∧ j ≤ out.length ∧ insK x out j.toNat = insK x out out.length ∧ Below w.heap.size w wq ∧ Sep w.heap.size wq [slO pathT 39 u out]) (fun j => [(5, I j), (4, I ((k : Int))), (3, u), (0, v), (2, .slice none 0 0)]) (fun j => j.toNat) ((out.length : Int)) ?_ ⟨rfl, rfl, rfl, rfl, rfl, trivial⟩ ?_
      · exact ⟨Int.natCast_nonneg _, Int.le_refl _, rfl, B, S⟩
      · rintro j w42 hI
        try dsimp only at hI ⊢
        obtain ⟨hj, hj2, hq, B, S⟩ := hI
        refine w_seq ?_
        refine w_seq ?_
        refine w_draw (.st .take 0 (.st .take 1 (.st .take 2 (.st .take 3 (.st .take 4 (.st .take 5 (.st .take 6 (.st .take 7 (.st .take 8 (.st .take 9 (.st .take 10 (.st .take 11 (.st .run 12 (.st .take 13 .done)))))))))))))) mixed (by kernel_rfl) ?_
        intro w43 x44
        have B := bx Hb B x44
        have S := S.below x44
        refine t_move rfl ?_ rfl
        refine t_gtr rfl rfl ?_ rfl
        refine t_move rfl ?_ rfl
        refine t_partp (t := 18) rfl ?_ ?_
        · intro hj0
          obtain ⟨y, hy⟩ : ∃ e, out[j.toNat - 1]? = some e := getx (by omega)
          have hym := hom y (List.mem_of_getElem? hy)
          have hzy := sz_paths_mem hym
          have hly := hl y hym
          have hgy := hg y hym
          have hj1 : j.toNat = (j.toNat - 1) + 1 := by omega
          have hj3 : (j - 1).toNat = j.toNat - 1 := by omega
          refine t_on rfl rfl ?_
          refine t_move rfl ?_ rfl
          refine t_on rfl rfl ?_
          refine t_move rfl ?_ rfl
          refine t_on rfl rfl ?_
          refine t_idx e_path (k := k) (by assumption) hx B rfl rfl (by first | rfl | omega) ?_ rfl
          intro p21 hp21
          refine t_on rfl rfl ?_
          refine t_lda (by assumption) ab_path sb_path B rfl ?_ rfl
          intro v22 hv22
          obtain ⟨v22_0, rfl, hv22_0⟩ := path_va hv22
          refine t_on rfl rfl ?_
          refine t_move rfl ?_ rfl
          refine t_on rfl rfl ?_
          refine t_move rfl ?_ rfl
          refine t_on rfl rfl ?_
          refine t_sub rfl rfl (by omega) ?_ rfl
          refine t_on rfl rfl ?_
          refine t_idx e_path (k := (j.toNat - 1)) (S.sl) hy (Below.refl _ _) rfl rfl (by first | rfl | omega) ?_ rfl
          intro p26 hp26
          refine t_on rfl rfl ?_
          refine t_lda (by assumption) ab_path sb_path (Below.refl _ _) rfl ?_ rfl
          intro v27 hv27
          obtain ⟨v27_0, rfl, hv27_0⟩ := path_va hv27
          refine t_on rfl rfl ?_
          refine t_callx Try.call116 rfl (spec_BetterPath _ _ _ _ _ (by first | assumption | exact VA.below (by assumption) B | exact path_mkv (by first | assumption | exact SlR.below (by assumption) B)) (by first | assumption | exact VA.below (by assumption) B | exact path_mkv (by first | assumption | exact SlR.below (by assumption) B)) (by omega) (by assumption) (by assumption) (by omega) (by assumption) (by assumption)) ?_ rfl rfl
          intro w45 x46
          have B := bx Hb B x46
          have S := S.below x46
          replace hv27_0 := hv27_0.below x46
          refine t_pickt rfl rfl ?_ rfl
          refine t_done' ?_
          refine x_seq ?_
          refine w_ifb rfl ?_ ?_
          · intro hb
            refine w_skip ?_
            refine x_seq ?_
            refine w_block ?_
            refine w_region ?_
            refine t_move rfl ?_ rfl
            refine t_sub rfl rfl (by omega) ?_ rfl
            refine t_assign rfl ?_ rfl
            refine t_done ?_
            refine x_block_normal ?_
            refine x_round (I := (fun j wq => (0 : Int) ≤ j ∧ j ≤ out.length ∧ insK x out j.toNat = insK x out out.length ∧ Below w.heap.size w wq ∧ Sep w.heap.size wq [slO pathT 39 u out])) (F := (fun j => [(5, I j), (4, I ((k : Int))), (3, u), (0, v), (2, .slice none 0 0)])) (μ := (fun j => j.toNat)) (j - 1) ?_ (by exact ⟨rfl, rfl, rfl, rfl, rfl, trivial⟩) (by (try dsimp only); omega)
            try dsimp only
            refine ⟨by omega, by omega, ?_, B, S⟩
            rw [hj3, ← insK_yes hy hb, ← hj1]
            exact hq
          · intro hb
            have hK : insK x out out.length = j.toNat := by rw [← hq, hj1, insK_no hy hb]
            obtain ⟨Au, cu, rfl, _⟩ := S.sl.form
            obtain ⟨cssR, hlR, haR, S⟩ := S.unrow
            have hnR := S.tail.rowLen
            have S := S.elsCut j.toNat
            refine w_exit ?_
            refine x_then_exit ?_
            refine x_then_exit ?_
            refine x_block_exit ?_
            refine x_seq ?_
            refine w_seq ?_
            refine w_region ?_
            refine t_move rfl ?_ rfl
            refine t_move rfl ?_ rfl
            refine t_idx e_path (k := k) (by assumption) hx B rfl rfl (by first | rfl | omega) ?_ rfl
            intro p34 hp34
            refine t_lda (by assumption) ab_path sb_path B rfl ?_ rfl
            intro v35 hv35
            obtain ⟨v35_0, rfl, hv35_0⟩ := path_va hv35
            refine t_call Try.call102 rfl (spec_l22Copy _ _ _ (by first | assumption | exact VA.below (by assumption) B | exact path_mkv (by first | assumption | exact SlR.below (by assumption) B)) (by omega)) ?_ rfl rfl
            rintro e w47 ⟨cs36, fp36, rfl, hO36, x48⟩
            refine ⟨_, rfl, x48, ?_⟩
            have S := S.add (o := tyO pathT _ _) x48 hO36
            have B := bx Hb B x48
            obtain ⟨u36_0, heq, S2⟩ := S.pathOpen
            subst heq
            have S := S2
            clear S2
            refine t_alloc S z_path rfl ?_ rfl rfl
            intro g6 w49 x50 S
            have B := bx Hb B x50
            refine t_stn S sb_path rfl rfl rfl rfl (by intro zz hu; have hu : zz ∈ ([u36_0] : List Value) := hu; simp only [List.mem_cons, List.not_mem_nil, or_false] at hu; rcases hu with rfl <;> first | rfl | exact (SlR.cells (by first | assumption | exact S.tail.sl | exact S.tail.tail.sl | exact S.tail.tail.tail.sl | exact S.tail.tail.tail.tail.sl | exact S.tail.tail.tail.tail.tail.sl | exact S.tail.tail.tail.tail.tail.tail.sl | exact S.tail.tail.tail.tail.tail.tail.tail.sl | exact S.tail.tail.tail.tail.tail.tail.tail.tail.sl)).2) ?_
            intro w51 b52 S
            have B := B.trans b52
            refine t_done ?_
            refine x_seq ?_
            refine w_drawP [1, 2, 3, 8, 9, 10] (.st .take 5 (.alt (.st .run 0 (.alt (.st .run 4 (.st .run 6 (.st .fin 7 (.st .fin 11 (.st .fin 12 .done))))) (.st .run 6 (.st .run 4 (.st .fin 7 (.st .fin 11 (.st .fin 12 .done))))))) (.st .run 6 (.st .run 0 (.st .run 4 (.st .fin 7 (.st .fin 11 (.st .fin 12 .done)))))))) mixed (by kernel_rfl) ?_
            intro w53 x54
            have B := bx Hb B x54
            have S := S.below x54
            refine p_move rfl ?_ rfl
            refine p_move rfl ?_ rfl
            refine p_sltv e_path (k := j.toNat) rfl rfl (by first | rfl | omega) (by omega) ?_ rfl
            refine p_move rfl ?_ rfl
            refine p_move rfl ?_ rfl
            refine p_sldv e_path (k := j.toNat) rfl rfl (by first | rfl | omega) (by omega) (by omega) ?_ rfl
            refine p_done ?_
            refine t_bxn S.box ab_path sb_path rfl rfl ?_ rfl
            refine t_alt ?_ ?_
            · refine t_lit0 (T := pathT) S bs_path0 rfl ?_ rfl rfl
              intro A37 w55 x56 S
              have B := bx Hb B x56
              refine t_alt ?_ ?_
              · have S := S.f3
                have S := S.f1
                refine t_mv0 e_path S (S.tail.tail.tail.tail.tail.rowTake haR j.toNat) (by first | (simp; done) | (simp; omega)) rfl rfl rfl (by first | omega | (simp; done) | (simp; omega)) (by first | (simp [maxLen]; done) | (simp [maxLen]; omega)) ?_ rfl
                intro v41 w57 x58 S
                have B := bx Hb B x58
                refine t_lit1 (fun w => bs_path1 _ w) rfl ?_ rfl rfl
                intro A43 w59 x60 hA43
                have B := bx Hb B x60
                have S := S.below x60
                have S := S.f2
                have S := S.pathShut (x := x)
                have S := S.f1
                refine t_snoc e_path S hA43 rfl rfl rfl (by first | omega | (simp; done) | (simp; omega)) (by (simp only [maxLen]); first | omega | (simp; done) | (simp; omega)) ?_ rfl
                intro v44 w61 x62 S
                have B := B.trans x62
                have S := S.f2
                have S := S.f1
                refine t_mv e_path S (S.tail.tail.tail.rowDrop haR j.toNat) (by first | (simp; done) | (simp; omega)) rfl rfl rfl (by first | omega | (simp; done) | (simp; omega)) (by first | (simp [maxLen]; done) | (simp [maxLen]; omega)) ?_ rfl
                intro v48 w63 x64 S
                have B := B.trans x64
                refine t_assign rfl ?_ rfl
                refine t_done' ?_
                refine x_block_normal ?_
                refine x_seq ?_
                refine w_region ?_
                refine t_move rfl ?_ rfl
                refine t_add rfl rfl (by omega) ?_ rfl
                refine t_assign rfl ?_ rfl
                refine t_done ?_
                have S := S.f1
                have S := S.tail
                have S := S.f1
                have S := S.tail
                refine x_round (I := (fun x wq => (fun k out u => k ≤ l.length ∧ out = sortP (l.take k) ∧ Below w.heap.size w wq ∧ Sep w.heap.size wq [slO pathT 39 u out]) x.1 x.2.1 x.2.2)) (F := (fun x => (fun k out u => [(4, I ((k : Int))), (3, u), (0, v), (2, .slice none 0 0)]) x.1 x.2.1 x.2.2)) (μ := (fun x => (fun k out u => l.length - k) x.1 x.2.1 x.2.2)) (k + 1, (([] ++ out.take j.toNat) ++ [x]) ++ out.drop j.toNat, v48) ?_ (by exact ⟨rfl, rfl, rfl, rfl, trivial⟩) (by (try dsimp only); omega)
                try dsimp only
                exact ⟨by omega, by rw [hst, insP, hK, List.nil_append], B, S⟩
              · refine t_lit1 (fun w => bs_path1 _ w) rfl ?_ rfl rfl
                intro A43 w65 x66 hA43
                have B := bx Hb B x66
                have S := S.below x66
                have S := S.f3
                have S := S.f1
                refine t_mv0 e_path S (S.tail.tail.tail.tail.tail.rowTake haR j.toNat) (by first | (simp; done) | (simp; omega)) rfl rfl rfl (by first | omega | (simp; done) | (simp; omega)) (by first | (simp [maxLen]; done) | (simp [maxLen]; omega)) ?_ rfl
                intro v41 w67 x68 S
                have B := bx Hb B x68
                replace hA43 := hA43.below x68
                have S := S.f2
                have S := S.pathShut (x := x)
                have S := S.f1
                refine t_snoc e_path S hA43 rfl rfl rfl (by first | omega | (simp; done) | (simp; omega)) (by (simp only [maxLen]); first | omega | (simp; done) | (simp; omega)) ?_ rfl
                intro v44 w69 x70 S
                have B := B.trans x70
                have S := S.f2
                have S := S.f1
                refine t_mv e_path S (S.tail.tail.tail.rowDrop haR j.toNat) (by first | (simp; done) | (simp; omega)) rfl rfl rfl (by first | omega | (simp; done) | (simp; omega)) (by first | (simp [maxLen]; done) | (simp [maxLen]; omega)) ?_ rfl
                intro v48 w71 x72 S
                have B := B.trans x72
                refine t_assign rfl ?_ rfl
                refine t_done' ?_
                refine x_block_normal ?_
                refine x_seq ?_
                refine w_region ?_
                refine t_move rfl ?_ rfl
                refine t_add rfl rfl (by omega) ?_ rfl
                refine t_assign rfl ?_ rfl
                refine t_done ?_
                have S := S.f1
                have S := S.tail
                have S := S.f1
                have S := S.tail
                refine x_round (I := (fun x wq => (fun k out u => k ≤ l.length ∧ out = sortP (l.take k) ∧ Below w.heap.size w wq ∧ Sep w.heap.size wq [slO pathT 39 u out]) x.1 x.2.1 x.2.2)) (F := (fun x => (fun k out u => [(4, I ((k : Int))), (3, u), (0, v), (2, .slice none 0 0)]) x.1 x.2.1 x.2.2)) (μ := (fun x => (fun k out u => l.length - k) x.1 x.2.1 x.2.2)) (k + 1, (([] ++ out.take j.toNat) ++ [x]) ++ out.drop j.toNat, v48) ?_ (by exact ⟨rfl, rfl, rfl, rfl, trivial⟩) (by (try dsimp only); omega)
                try dsimp only
                exact ⟨by omega, by rw [hst, insP, hK, List.nil_append], B, S⟩
            · refine t_lit1 (fun w => bs_path1 _ w) rfl ?_ rfl rfl
              intro A43 w73 x74 hA43
              have B := bx Hb B x74
              have S := S.below x74
              refine t_lit0 (T := pathT) S bs_path0 rfl ?_ rfl rfl
              intro A37 w75 x76 S
              have B := bx Hb B x76
              replace hA43 := hA43.below x76
              have S := S.f3
              have S := S.f1
              refine t_mv0 e_path S (S.tail.tail.tail.tail.tail.rowTake haR j.toNat) (by first | (simp; done) | (simp; omega)) rfl rfl rfl (by first | omega | (simp; done) | (simp; omega)) (by first | (simp [maxLen]; done) | (simp [maxLen]; omega)) ?_ rfl
              intro v41 w77 x78 S
              have B := bx Hb B x78
              replace hA43 := hA43.below x78
              have S := S.f2
              have S := S.pathShut (x := x)
              have S := S.f1
              refine t_snoc e_path S hA43 rfl rfl rfl (by first | omega | (simp; done) | (simp; omega)) (by (simp only [maxLen]); first | omega | (simp; done) | (simp; omega)) ?_ rfl
              intro v44 w79 x80 S
              have B := B.trans x80
              have S := S.f2
              have S := S.f1
              refine t_mv e_path S (S.tail.tail.tail.rowDrop haR j.toNat) (by first | (simp; done) | (simp; omega)) rfl rfl rfl (by first | omega | (simp; done) | (simp; omega)) (by first | (simp [maxLen]; done) | (simp [maxLen]; omega)) ?_ rfl
              intro v48 w81 x82 S
              have B := B.trans x82
              refine t_assign rfl ?_ rfl
              refine t_done' ?_
              refine x_block_normal ?_
              refine x_seq ?_
              refine w_region ?_
              refine t_move rfl ?_ rfl
              refine t_add rfl rfl (by omega) ?_ rfl
              refine t_assign rfl ?_ rfl
              refine t_done ?_
              have S := S.f1
              have S := S.tail
              have S := S.f1
              have S := S.tail
              refine x_round (I := (fun x wq => (fun k out u => k ≤ l.length ∧ out = sortP (l.take k) ∧ Below w.heap.size w wq ∧ Sep w.heap.size wq [slO pathT 39 u out]) x.1 x.2.1 x.2.2)) (F := (fun x => (fun k out u => [(4, I ((k : Int))), (3, u), (0, v), (2, .slice none 0 0)]) x.1 x.2.1 x.2.2)) (μ := (fun x => (fun k out u => l.length - k) x.1 x.2.1 x.2.2)) (k + 1, (([] ++ out.take j.toNat) ++ [x]) ++ out.drop j.toNat, v48) ?_ (by exact ⟨rfl, rfl, rfl, rfl, trivial⟩) (by (try dsimp only); omega)
              try dsimp only
              exact ⟨by omega, by rw [hst, insP, hK, List.nil_append], B, S⟩
        · intro hj0
          have hj1 : j.toNat = 0 := by omega
          have hK : insK x out out.length = j.toNat := by rw [← hq, hj1]; rfl
          obtain ⟨Au, cu, rfl, _⟩ := S.sl.form
          obtain ⟨cssR, hlR, haR, S⟩ := S.unrow
          have hnR := S.tail.rowLen
          have S := S.elsCut j.toNat
          refine t_off rfl rfl rfl ?_ rfl
          refine t_off rfl rfl rfl ?_ rfl
          refine t_off rfl rfl rfl ?_ rfl
          refine t_off rfl rfl rfl ?_ rfl
          refine t_off rfl rfl rfl ?_ rfl
          refine t_off rfl rfl rfl ?_ rfl
          refine t_off rfl rfl rfl ?_ rfl
          refine t_off rfl rfl rfl ?_ rfl
          refine t_off rfl rfl rfl ?_ rfl
          refine t_off rfl rfl rfl ?_ rfl
          refine t_pickf rfl rfl ?_ rfl
          refine t_done' ?_
          refine x_seq ?_
          refine w_no rfl ?_
          refine w_exit ?_
          refine x_then_exit ?_
          refine x_then_exit ?_
          refine x_block_exit ?_
          refine x_seq ?_
          refine w_seq ?_
          refine w_region ?_
          refine t_move rfl ?_ rfl
          refine t_move rfl ?_ rfl
          refine t_idx e_path (k := k) (by assumption) hx B rfl rfl (by first | rfl | omega) ?_ rfl
          intro p34 hp34
          refine t_lda (by assumption) ab_path sb_path B rfl ?_ rfl
          intro v35 hv35
          obtain ⟨v35_0, rfl, hv35_0⟩ := path_va hv35
          refine t_call Try.call102 rfl (spec_l22Copy _ _ _ (by first | assumption | exact VA.below (by assumption) B | exact path_mkv (by first | assumption | exact SlR.below (by assumption) B)) (by omega)) ?_ rfl rfl
          rintro e w83 ⟨cs36, fp36, rfl, hO36, x84⟩
          refine ⟨_, rfl, x84, ?_⟩
          have S := S.add (o := tyO pathT _ _) x84 hO36
          have B := bx Hb B x84
          obtain ⟨u36_0, heq, S2⟩ := S.pathOpen
          subst heq
          have S := S2
          clear S2
          refine t_alloc S z_path rfl ?_ rfl rfl
          intro g6 w85 x86 S
          have B := bx Hb B x86
          refine t_stn S sb_path rfl rfl rfl rfl (by intro zz hu; have hu : zz ∈ ([u36_0] : List Value) := hu; simp only [List.mem_cons, List.not_mem_nil, or_false] at hu; rcases hu with rfl <;> first | rfl | exact (SlR.cells (by first | assumption | exact S.tail.sl | exact S.tail.tail.sl | exact S.tail.tail.tail.sl | exact S.tail.tail.tail.tail.sl | exact S.tail.tail.tail.tail.tail.sl | exact S.tail.tail.tail.tail.tail.tail.sl | exact S.tail.tail.tail.tail.tail.tail.tail.sl | exact S.tail.tail.tail.tail.tail.tail.tail.tail.sl)).2) ?_
          intro w87 b88 S
          have B := B.trans b88
          refine t_done ?_
          refine x_seq ?_
          refine w_drawP [1, 2, 3, 8, 9, 10] (.st .take 5 (.alt (.st .run 0 (.alt (.st .run 4 (.st .run 6 (.st .fin 7 (.st .fin 11 (.st .fin 12 .done))))) (.st .run 6 (.st .run 4 (.st .fin 7 (.st .fin 11 (.st .fin 12 .done))))))) (.st .run 6 (.st .run 0 (.st .run 4 (.st .fin 7 (.st .fin 11 (.st .fin 12 .done)))))))) mixed (by kernel_rfl) ?_
          intro w89 x90
          have B := bx Hb B x90
          have S := S.below x90
          refine p_move rfl ?_ rfl
          refine p_move rfl ?_ rfl
          refine p_sltv e_path (k := j.toNat) rfl rfl (by first | rfl | omega) (by omega) ?_ rfl
          refine p_move rfl ?_ rfl
          refine p_move rfl ?_ rfl
          refine p_sldv e_path (k := j.toNat) rfl rfl (by first | rfl | omega) (by omega) (by omega) ?_ rfl
          refine p_done ?_
          refine t_bxn S.box ab_path sb_path rfl rfl ?_ rfl
          refine t_alt ?_ ?_
          · refine t_lit0 (T := pathT) S bs_path0 rfl ?_ rfl rfl
            intro A37 w91 x92 S
            have B := bx Hb B x92
            refine t_alt ?_ ?_
            · have S := S.f3
              have S := S.f1
              refine t_mv0 e_path S (S.tail.tail.tail.tail.tail.rowTake haR j.toNat) (by first | (simp; done) | (simp; omega)) rfl rfl rfl (by first | omega | (simp; done) | (simp; omega)) (by first | (simp [maxLen]; done) | (simp [maxLen]; omega)) ?_ rfl
              intro v41 w93 x94 S
              have B := bx Hb B x94
              refine t_lit1 (fun w => bs_path1 _ w) rfl ?_ rfl rfl
              intro A43 w95 x96 hA43
              have B := bx Hb B x96
              have S := S.below x96
              have S := S.f2
              have S := S.pathShut (x := x)
              have S := S.f1
              refine t_snoc e_path S hA43 rfl rfl rfl (by first | omega | (simp; done) | (simp; omega)) (by (simp only [maxLen]); first | omega | (simp; done) | (simp; omega)) ?_ rfl
              intro v44 w97 x98 S
              have B := B.trans x98
              have S := S.f2
              have S := S.f1
              refine t_mv e_path S (S.tail.tail.tail.rowDrop haR j.toNat) (by first | (simp; done) | (simp; omega)) rfl rfl rfl (by first | omega | (simp; done) | (simp; omega)) (by first | (simp [maxLen]; done) | (simp [maxLen]; omega)) ?_ rfl
              intro v48 w99 x100 S
              have B := B.trans x100
              refine t_assign rfl ?_ rfl
              refine t_done' ?_
              refine x_block_normal ?_
              refine x_seq ?_
              refine w_region ?_
              refine t_move rfl ?_ rfl
              refine t_add rfl rfl (by omega) ?_ rfl
              refine t_assign rfl ?_ rfl
              refine t_done ?_
              have S := S.f1
              have S := S.tail
              have S := S.f1
              have S := S.tail
              refine x_round (I := (fun x wq => (fun k out u => k ≤ l.length ∧ out = sortP (l.take k) ∧ Below w.heap.size w wq ∧ Sep w.heap.size wq [slO pathT 39 u out]) x.1 x.2.1 x.2.2)) (F := (fun x => (fun k out u => [(4, I ((k : Int))), (3, u), (0, v), (2, .slice none 0 0)]) x.1 x.2.1 x.2.2)) (μ := (fun x => (fun k out u => l.length - k) x.1 x.2.1 x.2.2)) (k + 1, (([] ++ out.take j.toNat) ++ [x]) ++ out.drop j.toNat, v48) ?_ (by exact ⟨rfl, rfl, rfl, rfl, trivial⟩) (by (try dsimp only); omega)
              try dsimp only
              exact ⟨by omega, by rw [hst, insP, hK, List.nil_append], B, S⟩
            · refine t_lit1 (fun w => bs_path1 _ w) rfl ?_ rfl rfl
              intro A43 w101 x102 hA43
              have B := bx Hb B x102
              have S := S.below x102
              have S := S.f3
              have S := S.f1
              refine t_mv0 e_path S (S.tail.tail.tail.tail.tail.rowTake haR j.toNat) (by first | (simp; done) | (simp; omega)) rfl rfl rfl (by first | omega | (simp; done) | (simp; omega)) (by first | (simp [maxLen]; done) | (simp [maxLen]; omega)) ?_ rfl
              intro v41 w103 x104 S
              have B := bx Hb B x104
              replace hA43 := hA43.below x104
              have S := S.f2
              have S := S.pathShut (x := x)
              have S := S.f1
              refine t_snoc e_path S hA43 rfl rfl rfl (by first | omega | (simp; done) | (simp; omega)) (by (simp only [maxLen]); first | omega | (simp; done) | (simp; omega)) ?_ rfl
              intro v44 w105 x106 S
              have B := B.trans x106
              have S := S.f2
              have S := S.f1
              refine t_mv e_path S (S.tail.tail.tail.rowDrop haR j.toNat) (by first | (simp; done) | (simp; omega)) rfl rfl rfl (by first | omega | (simp; done) | (simp; omega)) (by first | (simp [maxLen]; done) | (simp [maxLen]; omega)) ?_ rfl
              intro v48 w107 x108 S
              have B := B.trans x108
              refine t_assign rfl ?_ rfl
              refine t_done' ?_
              refine x_block_normal ?_
              refine x_seq ?_
              refine w_region ?_
              refine t_move rfl ?_ rfl
              refine t_add rfl rfl (by omega) ?_ rfl
              refine t_assign rfl ?_ rfl
              refine t_done ?_
              have S := S.f1
              have S := S.tail
              have S := S.f1
              have S := S.tail
              refine x_round (I := (fun x wq => (fun k out u => k ≤ l.length ∧ out = sortP (l.take k) ∧ Below w.heap.size w wq ∧ Sep w.heap.size wq [slO pathT 39 u out]) x.1 x.2.1 x.2.2)) (F := (fun x => (fun k out u => [(4, I ((k : Int))), (3, u), (0, v), (2, .slice none 0 0)]) x.1 x.2.1 x.2.2)) (μ := (fun x => (fun k out u => l.length - k) x.1 x.2.1 x.2.2)) (k + 1, (([] ++ out.take j.toNat) ++ [x]) ++ out.drop j.toNat, v48) ?_ (by exact ⟨rfl, rfl, rfl, rfl, trivial⟩) (by (try dsimp only); omega)
              try dsimp only
              exact ⟨by omega, by rw [hst, insP, hK, List.nil_append], B, S⟩
          · refine t_lit1 (fun w => bs_path1 _ w) rfl ?_ rfl rfl
            intro A43 w109 x110 hA43
            have B := bx Hb B x110
            have S := S.below x110
            refine t_lit0 (T := pathT) S bs_path0 rfl ?_ rfl rfl
            intro A37 w111 x112 S
            have B := bx Hb B x112
            replace hA43 := hA43.below x112
            have S := S.f3
            have S := S.f1
            refine t_mv0 e_path S (S.tail.tail.tail.tail.tail.rowTake haR j.toNat) (by first | (simp; done) | (simp; omega)) rfl rfl rfl (by first | omega | (simp; done) | (simp; omega)) (by first | (simp [maxLen]; done) | (simp [maxLen]; omega)) ?_ rfl
            intro v41 w113 x114 S
            have B := bx Hb B x114
            replace hA43 := hA43.below x114
            have S := S.f2
            have S := S.pathShut (x := x)
            have S := S.f1
            refine t_snoc e_path S hA43 rfl rfl rfl (by first | omega | (simp; done) | (simp; omega)) (by (simp only [maxLen]); first | omega | (simp; done) | (simp; omega)) ?_ rfl
            intro v44 w115 x116 S
            have B := B.trans x116
            have S := S.f2
            have S := S.f1
            refine t_mv e_path S (S.tail.tail.tail.rowDrop haR j.toNat) (by first | (simp; done) | (simp; omega)) rfl rfl rfl (by first | omega | (simp; done) | (simp; omega)) (by first | (simp [maxLen]; done) | (simp [maxLen]; omega)) ?_ rfl
            intro v48 w117 x118 S
            have B := B.trans x118
            refine t_assign rfl ?_ rfl
            refine t_done' ?_
            refine x_block_normal ?_
            refine x_seq ?_
            refine w_region ?_
            refine t_move rfl ?_ rfl
            refine t_add rfl rfl (by omega) ?_ rfl
            refine t_assign rfl ?_ rfl
            refine t_done ?_
            have S := S.f1
            have S := S.tail
            have S := S.f1
            have S := S.tail
            refine x_round (I := (fun x wq => (fun k out u => k ≤ l.length ∧ out = sortP (l.take k) ∧ Below w.heap.size w wq ∧ Sep w.heap.size wq [slO pathT 39 u out]) x.1 x.2.1 x.2.2)) (F := (fun x => (fun k out u => [(4, I ((k : Int))), (3, u), (0, v), (2, .slice none 0 0)]) x.1 x.2.1 x.2.2)) (μ := (fun x => (fun k out u => l.length - k) x.1 x.2.1 x.2.2)) (k + 1, (([] ++ out.take j.toNat) ++ [x]) ++ out.drop j.toNat, v48) ?_ (by exact ⟨rfl, rfl, rfl, rfl, trivial⟩) (by (try dsimp only); omega)
            try dsimp only
            exact ⟨by omega, by rw [hst, insP, hK, List.nil_append], B, S⟩
    · intro hge
      refine w_exit ?_
      refine x_then_exit ?_
      refine x_then_exit ?_
      refine x_block_exit ?_
      refine x_seq ?_
      refine w_seq ?_
      refine w_region ?_
      refine t_move rfl ?_ rfl
      refine t_assign rfl ?_ rfl
      refine t_done ?_
      refine x_seq ?_
      refine w_ret ?_
      refine x_ret1 rfl rfl ?_
      obtain ⟨fp, hO⟩ := (S.mono X0.size).head
      rw [List.take_of_length_le (by omega)] at ho
      rw [← ho]
      exact ⟨_, fp, rfl, hO, ext_trans X0 B⟩
end Go.Proofs.Ytfgobdejlfojiaa
