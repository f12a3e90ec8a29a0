/- laws.FnPaths returns true, for all arguments: the walk of the law out of contracts of the draws and of what it calls, and the row. No condition. (The row: printed by law3.py.) -/
import Derived.Test.YtdaecknfahgddaaGreatSLawFnPaths5
namespace Go.Proofs.YtdaecknfahgddaaGreat
open Go.RowKit
set_option linter.unusedVariables false
set_option maxRecDepth 20000
theorem laws_big (l : List UInt8) (v : Value) (w : World) (h : SlR byteT w v l) : Calls Tryz.prog 5 #[v] w fun e w' => e = .returned (.bool (decide ((1048576 : Int) < (l.length : Int)))) ∧ w = w' := by
  have X0 := Below.refl w.heap.size w
  refine enter Tryz.func5 rfl Tryz.ntmps5 rfl ?_
  refine w_seq ?_
  refine w_region ?_
  have S := Sep.nil w
  have B := Below.refl w.heap.size w
  have Hb := Nat.le_refl w.heap.size
  refine t_assign rfl ?_ rfl
  refine t_done ?_
  refine x_seq ?_
  refine w_seq ?_
  refine w_region ?_
  refine t_move rfl ?_ rfl
  refine t_len e_byte (by assumption) rfl rfl ?_ rfl
  refine t_gtr rfl rfl ?_ rfl
  refine t_assign rfl ?_ rfl
  refine t_done ?_
  refine x_seq ?_
  refine w_ret ?_
  refine x_ret1 rfl rfl ?_
  exact ⟨rfl, rfl⟩
theorem laws_in (l : List Int) (v : Value) (n : Int) (w : World) (h : SlR intT w v l) (hz : l.length ≤ 1000000) : Calls Tryz.prog 30 #[v, I n] w fun e w' => e = .returned (.bool (l.contains n)) ∧ w = w' := by
  have X0 := Below.refl w.heap.size w
  refine enter Tryz.func30 rfl Tryz.ntmps30 rfl ?_
  refine w_seq ?_
  refine w_region ?_
  have S := Sep.nil w
  have B := Below.refl w.heap.size w
  have Hb := Nat.le_refl w.heap.size
  refine t_assign rfl ?_ rfl
  refine t_done ?_
  refine x_seq ?_
  refine w_seq ?_
  refine w_seq ?_
  refine w_region ?_
  refine t_assign rfl ?_ rfl
  refine t_done ?_
  refine x_seq ?_
  refine w_block ?_
  refine w_loop (X := Nat) (fun k wq => k ≤ l.length ∧ (l.take k).contains n = false ∧ w = wq) (fun k => [(5, I ((k : Int))), (0, v), (1, I n)]) (fun k => l.length - k) (0) ?_ ⟨rfl, rfl, rfl, trivial⟩ ?_
  · exact ⟨by omega, rfl, rfl⟩
  rintro k w1 hI
  try dsimp only at hI ⊢
  obtain ⟨hk, hc, rfl⟩ := hI
  refine w_seq ?_
  refine w_seq ?_
  refine w_region ?_
  refine t_move rfl ?_ rfl
  refine t_move rfl ?_ rfl
  refine t_len e_int (by assumption) rfl rfl ?_ rfl
  refine t_lss rfl rfl ?_ rfl
  refine t_done ?_
  refine x_seq ?_
  refine w_if rfl ?_ ?_
  · intro hlt
    refine w_skip ?_
    refine x_seq ?_
    refine w_seq ?_
    refine w_block ?_
    refine w_seq ?_
    refine w_region ?_
    refine t_move rfl ?_ rfl
    refine t_move rfl ?_ rfl
    obtain ⟨e14, he14⟩ : ∃ e, (l)[k]? = some e := getx (by omega)
    refine t_idx e_int (k := k) (by assumption) he14 B rfl rfl (by first | rfl | omega) ?_ rfl
    intro p14 hp14
    refine t_ldi (by assumption) ab_int B rfl ?_ rfl
    refine t_move rfl ?_ rfl
    refine t_eql rfl rfl ?_ rfl
    refine t_done ?_
    refine x_seq ?_
    refine w_if rfl ?_ ?_
    · intro he
      refine w_seq ?_
      refine w_region ?_
      refine t_assign rfl ?_ rfl
      refine t_done ?_
      refine x_seq ?_
      refine w_ret ?_
      refine x_block_ret ?_
      refine x_then_ret ?_
      refine x_then_ret ?_
      refine x_block_ret ?_
      refine x_then_ret ?_
      refine x_ret1 rfl rfl ?_
      have hm : n ∈ l := he ▸ List.mem_of_getElem? he14
      exact ⟨ret_bool (by rw [List.contains_eq_mem]; exact (decide_eq_true hm).symm), rfl⟩
    · intro he
      refine w_skip ?_
      refine x_block_normal ?_
      refine x_seq ?_
      refine w_region ?_
      refine t_move rfl ?_ rfl
      refine t_add rfl rfl (by omega) ?_ rfl
      refine t_assign rfl ?_ rfl
      refine t_done ?_
      refine x_round (X := Nat) (k + 1) ?_ (by exact ⟨rfl, rfl, rfl, trivial⟩) (by (try dsimp only); omega)
      try dsimp only
      refine ⟨by omega, ?_, rfl⟩
      rw [take_succ he14]
      rw [List.contains_eq_mem, decide_eq_false_iff_not] at hc ⊢
      rw [List.mem_append, List.mem_singleton]
      rintro (z | z)
      · exact hc z
      · exact he z.symm
  · intro hge
    refine w_exit ?_
    refine x_then_exit ?_
    refine x_then_exit ?_
    refine x_block_exit ?_
    refine x_seq ?_
    refine w_seq ?_
    refine w_region ?_
    refine t_assign rfl ?_ rfl
    refine t_done ?_
    refine x_seq ?_
    refine w_ret ?_
    refine x_ret1 rfl rfl ?_
    rw [List.take_of_length_le (by omega)] at hc
    exact ⟨ret_bool hc.symm, rfl⟩
theorem fresh_upto {l : List Int} {k : Nat} {x : Int} (h : l[k]? = some x) : (List.range (k + 1)).all (fresh l) = ((List.range k).all (fresh l) && !(l.take k).contains x) := by
  rw [List.range_succ, List.all_append]
  simp only [List.all_cons, List.all_nil, Bool.and_true]
  congr 1
  unfold fresh; rw [h]
set_option maxHeartbeats 8000000 in
theorem lawFnPaths (d0 : List UInt8) (v0 : Value) (w : World) (f0 : SlR byteT w v0 d0) (l0 : d0.length ≤ 9223372036854775807) :
    Calls Tryz.prog 3 #[v0] w fun r w' => r = .returned (.bool true) ∧ Below w.heap.size w w' := by
  have X0 := Below.refl w.heap.size w
  refine enter Tryz.func3 rfl Tryz.ntmps3 rfl ?_
  refine w_seq ?_
  refine w_region ?_
  have S := Sep.nil w
  have B := Below.refl w.heap.size w
  have Hb := Nat.le_refl w.heap.size
  refine t_assign rfl ?_ rfl
  refine t_done ?_
  refine x_seq ?_
  refine w_seq ?_
  refine w_seq ?_
  refine w_region ?_
  refine t_move rfl ?_ rfl
  refine t_calls Tryz.call5 rfl (laws_big _ _ _ (by first | assumption | exact SlR.below (by assumption) B)) ?_ rfl rfl
  refine t_done ?_
  refine x_seq ?_
  refine w_if rfl ?_ ?_
  · intro hb
    refine w_seq ?_
    refine w_region ?_
    refine t_assign rfl ?_ rfl
    refine t_done ?_
    refine x_seq ?_
    refine w_ret ?_
    refine x_then_ret ?_
    refine x_ret1 rfl rfl ?_
    exact ⟨rfl, ext_trans X0 B⟩
  · intro hb
    refine w_skip ?_
    refine x_seq ?_
    refine w_seq ?_
    refine w_region ?_
    refine t_move rfl ?_ rfl
    refine t_call Tryz.call6 rfl (spec_DrawPath _ _ _ (by first | assumption | exact SlR.below (by assumption) B) (by omega)) ?_ rfl rfl
    rintro e w2 ⟨va23, vl23, vp23, A23, L23, p23, rfl, hf23, S9, x3⟩
    refine ⟨_, rfl, x3, ?_⟩
    have S := S.join2 x3 S9
    clear S9
    have B := bx Hb B x3
    refine t_move rfl ?_ rfl
    refine t_extract rfl rfl ?_ rfl
    refine t_extract rfl rfl ?_ rfl
    refine t_alloc S z_topo rfl ?_ rfl rfl
    intro g3 w4 x5 S
    have B := bx Hb B x5
    refine t_alloc S z_path rfl ?_ rfl rfl
    intro g4 w6 x7 S
    have B := bx Hb B x7
    have S := S.f1
    refine t_stn S sb_topo rfl rfl rfl rfl (by intro zz hu; have hu : zz ∈ ([va23, vl23] : List Value) := hu; simp only [List.mem_cons, List.not_mem_nil, or_false] at hu; rcases hu with rfl | rfl <;> first | rfl | exact (SlR.cells S.tail.tail.tail.sl).2 | exact (SlR.cells S.tail.tail.tail.tail.sl).2) ?_
    intro w8 b9 S
    have B := B.trans b9
    have S := S.f1
    refine t_stn S sb_path rfl rfl rfl rfl (by intro zz hu; have hu : zz ∈ ([vp23] : List Value) := hu; simp only [List.mem_cons, List.not_mem_nil, or_false] at hu; rcases hu with rfl <;> first | rfl | exact (SlR.cells S.tail.tail.sl).2) ?_
    intro w10 b11 S
    have B := B.trans b11
    refine t_done ?_
    refine x_seq ?_
    refine w_seq ?_
    refine w_region ?_
    refine t_move rfl ?_ rfl
    refine t_call Tryz.call7 rfl (spec_DrawWellFormedPath _ _ _ (by first | assumption | exact SlR.below (by assumption) B) (by omega)) ?_ rfl rfl
    rintro e w12 ⟨va28, vl28, vp28, A28, L28, p28, rfl, hf28, S9, x13⟩
    refine ⟨_, rfl, x13, ?_⟩
    have S := S.join2 x13 S9
    clear S9
    have B := bx Hb B x13
    refine t_move rfl ?_ rfl
    refine t_extract rfl rfl ?_ rfl
    refine t_extract rfl rfl ?_ rfl
    refine t_alloc S z_topo rfl ?_ rfl rfl
    intro g5 w14 x15 S
    have B := bx Hb B x15
    refine t_alloc S z_path rfl ?_ rfl rfl
    intro g6 w16 x17 S
    have B := bx Hb B x17
    have S := S.f1
    refine t_stn S sb_topo rfl rfl rfl rfl (by intro zz hu; have hu : zz ∈ ([va28, vl28] : List Value) := hu; simp only [List.mem_cons, List.not_mem_nil, or_false] at hu; rcases hu with rfl | rfl <;> first | rfl | exact (SlR.cells S.tail.tail.tail.sl).2 | exact (SlR.cells S.tail.tail.tail.tail.sl).2) ?_
    intro w18 b19 S
    have B := B.trans b19
    have S := S.f1
    refine t_stn S sb_path rfl rfl rfl rfl (by intro zz hu; have hu : zz ∈ ([vp28] : List Value) := hu; simp only [List.mem_cons, List.not_mem_nil, or_false] at hu; rcases hu with rfl <;> first | rfl | exact (SlR.cells S.tail.tail.rd).2) ?_
    intro w20 b21 S
    have B := B.trans b21
    refine t_done ?_
    refine x_seq ?_
    refine w_seq ?_
    refine w_region ?_
    refine t_move rfl ?_ rfl
    refine t_call Tryz.call8 rfl (spec_DrawPathUsable _ _ _ (by first | assumption | exact SlR.below (by assumption) B) (by omega)) ?_ rfl rfl
    rintro e w22 ⟨va33, vl33, vp33, A33, L33, p33, now33, rfl, hf33, S9, x23⟩
    refine ⟨_, rfl, x23, ?_⟩
    have S := S.join2 x23 S9
    clear S9
    have B := bx Hb B x23
    refine t_move rfl ?_ rfl
    refine t_extract rfl rfl ?_ rfl
    refine t_extract rfl rfl ?_ rfl
    refine t_extract rfl rfl ?_ rfl
    refine t_alloc S z_topo rfl ?_ rfl rfl
    intro g7 w24 x25 S
    have B := bx Hb B x25
    refine t_alloc S z_path rfl ?_ rfl rfl
    intro g8 w26 x27 S
    have B := bx Hb B x27
    have S := S.f1
    refine t_stn S sb_topo rfl rfl rfl rfl (by intro zz hu; have hu : zz ∈ ([va33, vl33] : List Value) := hu; simp only [List.mem_cons, List.not_mem_nil, or_false] at hu; rcases hu with rfl | rfl <;> first | rfl | exact (SlR.cells S.tail.tail.tail.sl).2 | exact (SlR.cells S.tail.tail.tail.tail.sl).2) ?_
    intro w28 b29 S
    have B := B.trans b29
    have S := S.f1
    refine t_stn S sb_path rfl rfl rfl rfl (by intro zz hu; have hu : zz ∈ ([vp33] : List Value) := hu; simp only [List.mem_cons, List.not_mem_nil, or_false] at hu; rcases hu with rfl <;> first | rfl | exact (SlR.cells S.tail.tail.rd).2) ?_
    intro w30 b31 S
    have B := B.trans b31
    refine t_assign rfl ?_ rfl
    refine t_done ?_
    refine x_seq ?_
    refine w_seq ?_
    refine w_region ?_
    refine t_move rfl ?_ rfl
    refine t_call Tryz.call9 rfl (spec_DrawEqualPaths _ _ _ (by first | assumption | exact SlR.below (by assumption) B) (by omega)) ?_ rfl rfl
    rintro e w32 ⟨va39, vb39, pa39, pb39, rfl, hf39, S9, x33⟩
    refine ⟨_, rfl, x33, ?_⟩
    have S := S.join2 x33 S9
    clear S9
    have B := bx Hb B x33
    refine t_move rfl ?_ rfl
    refine t_extract rfl rfl ?_ rfl
    refine t_extract rfl rfl ?_ rfl
    refine t_alloc S z_path rfl ?_ rfl rfl
    intro g10 w34 x35 S
    have B := bx Hb B x35
    refine t_alloc S z_path rfl ?_ rfl rfl
    intro g11 w36 x37 S
    have B := bx Hb B x37
    have S := S.f1
    refine t_stn S sb_path rfl rfl rfl rfl (by intro zz hu; have hu : zz ∈ ([va39] : List Value) := hu; simp only [List.mem_cons, List.not_mem_nil, or_false] at hu; rcases hu with rfl <;> first | rfl | exact (SlR.cells S.tail.tail.rd).2) ?_
    intro w38 b39 S
    have B := B.trans b39
    have S := S.f1
    refine t_stn S sb_path rfl rfl rfl rfl (by intro zz hu; have hu : zz ∈ ([vb39] : List Value) := hu; simp only [List.mem_cons, List.not_mem_nil, or_false] at hu; rcases hu with rfl <;> first | rfl | exact (SlR.cells S.tail.tail.tail.rd).2) ?_
    intro w40 b41 S
    have B := B.trans b41
    refine t_done ?_
    refine x_seq ?_
    refine w_seq ?_
    obtain ⟨T1, hP1⟩ := hf23
    obtain ⟨T2, hP2⟩ := hf28
    obtain ⟨T3, hP3, hn0, hn1⟩ := hf33
    obtain ⟨hP4, hP5⟩ := hf39
    have hsz1 := hP1.toS.sz
    have hrg1 := hP1.toS.rng
    have hln1 := hP1.toS.lenOk
    have hsz2 := hP2.sz
    have hrg2 := hP2.rng
    have hln2 := hP2.lenOk
    have hsz3 := hP3.sz
    have hrg3 := hP3.rng
    have hln3 := hP3.lenOk
    have hsz4 := hP4.sz
    have hsz5 := hP5.sz
    have hst1 : sz_topo (⟨A23, L23⟩ : Topo) ≤ 1048576 := by have := T1.1.2.1; have := T1.len; simp only [sz_topo]; omega
    have hst2 : sz_topo (⟨A28, L28⟩ : Topo) ≤ 1048576 := by have := T2.1.2.1; have := T2.len; simp only [sz_topo]; omega
    have hst3 : sz_topo (⟨A33, L33⟩ : Topo) ≤ 1048576 := by have := T3.1.2.1; have := T3.len; simp only [sz_topo]; omega
    have hrt2 := T2.rng
    have hnl := nums_len (pathSteps p23)
    have hnl2 := nums_len (pathSteps p28)
    have hpl := pathSteps_len p23
    have hpl2 := pathSteps_len p28
    have hv : verifyPath ⟨A23, L23⟩ p23 = true := by
      unfold verifyPath
      rw [List.all_eq_true]
      intro x hx
      obtain ⟨s, kd, i, hs, _, _, rfl⟩ := hP1.2 x hx
      exact verify_make hs kd i
    refine w_region ?_
    refine t_bxn S.tail.tail.tail.tail.box ab_path sb_path rfl rfl ?_ rfl
    refine t_callx Tryz.call10 rfl (va1 (path_mkv (S.tail.tail.tail.tail.tail.tail.rd)) fun cs h => impl_Endpoints p33 cs _ h (by omega) (by assumption) (by assumption)) ?_ rfl rfl
    intro w42 x43
    have B := bx Hb B x43
    have S := S.below x43
    refine t_move rfl ?_ rfl
    refine t_extract rfl rfl ?_ rfl
    refine t_extract rfl rfl ?_ rfl
    refine t_assign rfl ?_ rfl
    refine t_assign rfl ?_ rfl
    refine t_done ?_
    refine x_seq ?_
    refine w_seq ?_
    refine w_region ?_
    refine t_bxn S.tail.tail.tail.tail.box ab_path sb_path rfl rfl ?_ rfl
    refine t_callx Tryz.call11 rfl (va1 (path_mkv (S.tail.tail.tail.tail.tail.tail.rd)) fun cs h => spec_Endpoints p33 cs _ h (by omega) (by assumption) (by assumption)) ?_ rfl rfl
    intro w44 x45
    have B := bx Hb B x45
    have S := S.below x45
    refine t_move rfl ?_ rfl
    refine t_extract rfl rfl ?_ rfl
    refine t_extract rfl rfl ?_ rfl
    refine t_assign rfl ?_ rfl
    refine t_assign rfl ?_ rfl
    refine t_done ?_
    refine x_seq ?_
    refine w_seq ?_
    refine w_seq ?_
    refine w_draw (.st .take 0 (.st .take 1 (.st .take 3 (.st .take 4 (.st .run 2 (.st .run 5 (.st .take 6 (.st .take 7 (.st .take 8 (.st .take 9 (.st .take 11 (.st .take 12 (.st .run 10 (.st .run 13 (.st .take 14 (.st .take 15 (.st .take 16 (.st .take 17 (.st .take 18 (.st .take 20 (.st .take 21 (.st .run 19 (.st .run 22 (.st .take 23 (.st .take 24 (.st .take 25 (.st .take 26 (.st .take 27 (.st .take 28 (.st .take 30 (.st .take 31 (.st .take 32 (.st .run 29 (.st .run 33 (.st .take 34 (.st .take 35 (.st .take 36 (.st .take 37 (.st .take 38 (.st .take 40 (.st .take 41 (.st .run 39 (.st .run 42 (.st .take 43 (.st .take 44 (.st .take 45 (.st .take 46 (.st .take 47 (.st .take 48 (.st .take 49 (.st .take 50 (.st .take 51 (.st .take 52 (.st .take 53 (.st .take 54 (.st .take 55 (.st .take 56 (.st .take 57 (.st .take 59 (.st .take 60 (.st .run 58 (.st .run 61 (.st .take 62 (.st .take 63 (.st .take 64 (.st .take 65 (.st .take 67 (.st .run 66 (.st .run 68 (.st .run 69 (.st .take 70 (.st .take 71 (.st .take 72 (.st .take 73 (.st .take 75 (.st .run 74 (.st .run 76 (.st .run 77 (.st .take 78 (.st .take 79 .done)))))))))))))))))))))))))))))))))))))))))))))))))))))))))))))))))))))))))))))))) mixed (by kernel_rfl) ?_
    intro w46 x47
    have B := bx Hb B x47
    have S := S.below x47
    refine t_bxn S.tail.tail.tail.tail.tail.tail.tail.tail.tail.tail.box ab_topo sb_topo rfl rfl ?_ rfl
    refine t_bxn S.tail.tail.tail.tail.tail.tail.tail.tail.tail.box ab_path sb_path rfl rfl ?_ rfl
    refine t_bxn S.tail.tail.tail.tail.tail.tail.tail.tail.tail.tail.box ab_topo sb_topo rfl rfl ?_ rfl
    refine t_bxn S.tail.tail.tail.tail.tail.tail.tail.tail.tail.box ab_path sb_path rfl rfl ?_ rfl
    refine t_callx Tryz.call12 rfl (impl_WellFormedPath (⟨A28, L28⟩ : Topo) _ p28 _ _ (topo_mkv (S.tail.tail.tail.tail.tail.tail.tail.tail.tail.tail.tail.tail.sl) (S.tail.tail.tail.tail.tail.tail.tail.tail.tail.tail.tail.tail.tail.sl)) (path_mkv (S.tail.tail.tail.tail.tail.tail.tail.tail.tail.tail.tail.rd)) (by assumption) (by omega)) ?_ rfl rfl
    intro w48 x49
    have B := bx Hb B x49
    have S := S.below x49
    refine t_callx Tryz.call13 rfl (spec_WellFormedPath (⟨A28, L28⟩ : Topo) _ p28 _ _ (topo_mkv (S.tail.tail.tail.tail.tail.tail.tail.tail.tail.tail.tail.tail.sl) (S.tail.tail.tail.tail.tail.tail.tail.tail.tail.tail.tail.tail.tail.sl)) (path_mkv (S.tail.tail.tail.tail.tail.tail.tail.tail.tail.tail.tail.rd)) (by assumption) (by omega)) ?_ rfl rfl
    intro w50 x51
    have B := bx Hb B x51
    have S := S.below x51
    refine t_neqb Tryz.underlying4 rfl rfl ?_ rfl
    refine t_move rfl ?_ rfl
    refine t_partp (t := 59) rfl (fun h => absurd rfl h) ?_
    intro _
    refine t_on rfl rfl ?_
    refine t_bxn S.tail.tail.tail.tail.tail.tail.tail.tail.tail.tail.box ab_topo sb_topo rfl rfl ?_ rfl
    refine t_on rfl rfl ?_
    refine t_bxn S.tail.tail.tail.tail.tail.tail.tail.tail.tail.box ab_path sb_path rfl rfl ?_ rfl
    refine t_on rfl rfl ?_
    refine t_bxn S.tail.tail.tail.tail.tail.tail.tail.tail.tail.tail.box ab_topo sb_topo rfl rfl ?_ rfl
    refine t_on rfl rfl ?_
    refine t_bxn S.tail.tail.tail.tail.tail.tail.tail.tail.tail.box ab_path sb_path rfl rfl ?_ rfl
    refine t_on rfl rfl ?_
    refine t_callx Tryz.call14 rfl (impl_SimplePath (⟨A28, L28⟩ : Topo) _ p28 _ _ (topo_mkv (S.tail.tail.tail.tail.tail.tail.tail.tail.tail.tail.tail.tail.sl) (S.tail.tail.tail.tail.tail.tail.tail.tail.tail.tail.tail.tail.tail.sl)) (path_mkv (S.tail.tail.tail.tail.tail.tail.tail.tail.tail.tail.tail.rd)) (by assumption) (by omega) (by assumption) (by assumption)) ?_ rfl rfl
    intro w52 x53
    have B := bx Hb B x53
    have S := S.below x53
    refine t_on rfl rfl ?_
    refine t_callx Tryz.call15 rfl (spec_SimplePath (⟨A28, L28⟩ : Topo) _ p28 _ _ (topo_mkv (S.tail.tail.tail.tail.tail.tail.tail.tail.tail.tail.tail.tail.sl) (S.tail.tail.tail.tail.tail.tail.tail.tail.tail.tail.tail.tail.tail.sl)) (path_mkv (S.tail.tail.tail.tail.tail.tail.tail.tail.tail.tail.tail.rd)) (by assumption) (by omega) (by assumption) (by assumption)) ?_ rfl rfl
    intro w54 x55
    have B := bx Hb B x55
    have S := S.below x55
    refine t_on rfl rfl ?_
    refine t_neqb Tryz.underlying4 rfl rfl ?_ rfl
    refine t_pickf rfl rfl ?_ rfl
    refine t_move rfl ?_ rfl
    refine t_partp (t := 68) rfl (fun h => absurd rfl h) ?_
    intro _
    refine t_on rfl rfl ?_
    refine t_bxn S.tail.tail.tail.tail.tail.tail.tail.tail.tail.tail.box ab_topo sb_topo rfl rfl ?_ rfl
    refine t_on rfl rfl ?_
    refine t_bxn S.tail.tail.tail.tail.tail.tail.tail.tail.tail.box ab_path sb_path rfl rfl ?_ rfl
    refine t_on rfl rfl ?_
    refine t_bxn S.tail.tail.tail.tail.tail.tail.tail.tail.tail.tail.box ab_topo sb_topo rfl rfl ?_ rfl
    refine t_on rfl rfl ?_
    refine t_bxn S.tail.tail.tail.tail.tail.tail.tail.tail.tail.box ab_path sb_path rfl rfl ?_ rfl
    refine t_on rfl rfl ?_
    refine t_callx Tryz.call16 rfl (impl_VerifyPath (⟨A28, L28⟩ : Topo) _ p28 _ _ (topo_mkv (S.tail.tail.tail.tail.tail.tail.tail.tail.tail.tail.tail.tail.sl) (S.tail.tail.tail.tail.tail.tail.tail.tail.tail.tail.tail.tail.tail.sl)) (path_mkv (S.tail.tail.tail.tail.tail.tail.tail.tail.tail.tail.tail.rd)) (by assumption) (by omega)) ?_ rfl rfl
    intro w56 x57
    have B := bx Hb B x57
    have S := S.below x57
    refine t_on rfl rfl ?_
    refine t_callx Tryz.call17 rfl (spec_VerifyPath (⟨A28, L28⟩ : Topo) _ p28 _ _ (topo_mkv (S.tail.tail.tail.tail.tail.tail.tail.tail.tail.tail.tail.tail.sl) (S.tail.tail.tail.tail.tail.tail.tail.tail.tail.tail.tail.tail.tail.sl)) (path_mkv (S.tail.tail.tail.tail.tail.tail.tail.tail.tail.tail.tail.rd)) (by assumption) (by omega)) ?_ rfl rfl
    intro w58 x59
    have B := bx Hb B x59
    have S := S.below x59
    refine t_on rfl rfl ?_
    refine t_neqb Tryz.underlying4 rfl rfl ?_ rfl
    refine t_pickf rfl rfl ?_ rfl
    refine t_move rfl ?_ rfl
    refine t_partp (t := 77) rfl (fun h => absurd rfl h) ?_
    intro _
    refine t_on rfl rfl ?_
    refine t_bxn S.tail.tail.tail.tail.tail.box ab_topo sb_topo rfl rfl ?_ rfl
    refine t_on rfl rfl ?_
    refine t_bxn S.tail.tail.tail.tail.box ab_path sb_path rfl rfl ?_ rfl
    refine t_on rfl rfl ?_
    refine t_move rfl ?_ rfl
    refine t_on rfl rfl ?_
    refine t_bxn S.tail.tail.tail.tail.tail.box ab_topo sb_topo rfl rfl ?_ rfl
    refine t_on rfl rfl ?_
    refine t_bxn S.tail.tail.tail.tail.box ab_path sb_path rfl rfl ?_ rfl
    refine t_on rfl rfl ?_
    refine t_move rfl ?_ rfl
    refine t_on rfl rfl ?_
    refine t_callx Tryz.call18 rfl (impl_PathUsable (⟨A33, L33⟩ : Topo) _ p33 _ _ _ (topo_mkv (S.tail.tail.tail.tail.tail.tail.tail.sl) (S.tail.tail.tail.tail.tail.tail.tail.tail.sl)) (path_mkv (S.tail.tail.tail.tail.tail.tail.rd)) (by assumption) (by omega) (by assumption) (by assumption)) ?_ rfl rfl
    intro w60 x61
    have B := bx Hb B x61
    have S := S.below x61
    refine t_on rfl rfl ?_
    refine t_callx Tryz.call19 rfl (spec_PathUsable (⟨A33, L33⟩ : Topo) _ p33 _ _ _ (topo_mkv (S.tail.tail.tail.tail.tail.tail.tail.sl) (S.tail.tail.tail.tail.tail.tail.tail.tail.sl)) (path_mkv (S.tail.tail.tail.tail.tail.tail.rd)) (by assumption) (by omega) (by assumption) (by assumption)) ?_ rfl rfl
    intro w62 x63
    have B := bx Hb B x63
    have S := S.below x63
    refine t_on rfl rfl ?_
    refine t_neqb Tryz.underlying4 rfl rfl ?_ rfl
    refine t_pickf rfl rfl ?_ rfl
    refine t_move rfl ?_ rfl
    refine t_partp (t := 88) rfl (fun h => absurd rfl h) ?_
    intro _
    refine t_on rfl rfl ?_
    refine t_bxn S.tail.box ab_path sb_path rfl rfl ?_ rfl
    refine t_on rfl rfl ?_
    refine t_bxn S.box ab_path sb_path rfl rfl ?_ rfl
    refine t_on rfl rfl ?_
    refine t_bxn S.tail.box ab_path sb_path rfl rfl ?_ rfl
    refine t_on rfl rfl ?_
    refine t_bxn S.box ab_path sb_path rfl rfl ?_ rfl
    refine t_on rfl rfl ?_
    refine t_callx Tryz.call20 rfl (impl_eqPath pa39 pb39 _ _ _ (path_mkv (S.tail.tail.rd)) (path_mkv (S.tail.tail.tail.rd)) (by omega) (by omega)) ?_ rfl rfl
    intro w64 x65
    have B := bx Hb B x65
    have S := S.below x65
    refine t_on rfl rfl ?_
    refine t_callx Tryz.call21 rfl (laws_samePath pa39 pb39 _ _ _ (path_mkv (S.tail.tail.rd)) (path_mkv (S.tail.tail.tail.rd)) (by omega) (by omega)) ?_ rfl rfl
    intro w66 x67
    have B := bx Hb B x67
    have S := S.below x67
    refine t_on rfl rfl ?_
    refine t_neqb Tryz.underlying4 rfl rfl ?_ rfl
    refine t_pickf rfl rfl ?_ rfl
    refine t_move rfl ?_ rfl
    refine t_partp (t := 97) rfl (fun h => absurd rfl h) ?_
    intro _
    refine t_on rfl rfl ?_
    refine t_move rfl ?_ rfl
    refine t_on rfl rfl ?_
    refine t_move rfl ?_ rfl
    refine t_on rfl rfl ?_
    refine t_neq rfl rfl ?_ rfl
    refine t_pickf rfl rfl ?_ rfl
    refine t_move rfl ?_ rfl
    refine t_partp (t := 102) rfl (fun h => absurd rfl h) ?_
    intro _
    refine t_on rfl rfl ?_
    refine t_move rfl ?_ rfl
    refine t_on rfl rfl ?_
    refine t_move rfl ?_ rfl
    refine t_on rfl rfl ?_
    refine t_neq rfl rfl ?_ rfl
    refine t_pickf rfl rfl ?_ rfl
    refine t_move rfl ?_ rfl
    refine t_partp (t := 107) rfl (fun h => absurd rfl h) ?_
    intro _
    refine t_on rfl rfl ?_
    refine t_bxn S.tail.tail.tail.tail.tail.tail.tail.tail.tail.tail.box ab_topo sb_topo rfl rfl ?_ rfl
    refine t_on rfl rfl ?_
    refine t_bxn S.tail.tail.tail.tail.tail.tail.tail.tail.tail.box ab_path sb_path rfl rfl ?_ rfl
    refine t_on rfl rfl ?_
    refine t_bxn S.tail.tail.tail.tail.tail.tail.tail.tail.tail.tail.box ab_topo sb_topo rfl rfl ?_ rfl
    refine t_on rfl rfl ?_
    refine t_bxn S.tail.tail.tail.tail.tail.tail.tail.tail.tail.box ab_path sb_path rfl rfl ?_ rfl
    refine t_on rfl rfl ?_
    refine t_callx Tryz.call22 rfl (impl_FormatPath (⟨A28, L28⟩ : Topo) _ p28 _ _ (topo_mkv (S.tail.tail.tail.tail.tail.tail.tail.tail.tail.tail.tail.tail.sl) (S.tail.tail.tail.tail.tail.tail.tail.tail.tail.tail.tail.tail.tail.sl)) (path_mkv (S.tail.tail.tail.tail.tail.tail.tail.tail.tail.tail.tail.rd)) (by assumption) (by assumption) (by omega) (by assumption) (by assumption)) ?_ rfl rfl
    intro w68 x69
    have B := bx Hb B x69
    have S := S.below x69
    refine t_on rfl rfl ?_
    refine t_callx Tryz.call23 rfl (spec_FormatPath (⟨A28, L28⟩ : Topo) _ p28 _ _ (topo_mkv (S.tail.tail.tail.tail.tail.tail.tail.tail.tail.tail.tail.tail.sl) (S.tail.tail.tail.tail.tail.tail.tail.tail.tail.tail.tail.tail.tail.sl)) (path_mkv (S.tail.tail.tail.tail.tail.tail.tail.tail.tail.tail.tail.rd)) (by assumption) (by assumption) (by omega) (by assumption) (by assumption)) ?_ rfl rfl
    intro w70 x71
    have B := bx Hb B x71
    have S := S.below x71
    refine t_on rfl rfl ?_
    refine t_neqs rfl rfl ?_ rfl
    refine t_pickf rfl rfl ?_ rfl
    refine t_move rfl ?_ rfl
    refine t_partp (t := 116) rfl (fun h => absurd rfl h) ?_
    intro _
    refine t_on rfl rfl ?_
    refine t_bxn S.tail.tail.tail.tail.tail.tail.tail.tail.tail.box ab_path sb_path rfl rfl ?_ rfl
    refine t_on rfl rfl ?_
    refine t_bxn S.tail.tail.tail.tail.tail.tail.tail.tail.tail.box ab_path sb_path rfl rfl ?_ rfl
    refine t_on rfl rfl ?_
    refine t_call Tryz.call25 rfl (va1 (path_mkv (S.tail.tail.tail.tail.tail.tail.tail.tail.tail.tail.tail.rd)) fun cs h => impl_InterfacesUsed p28 cs _ h (by omega) (by assumption) (by assumption)) ?_ rfl rfl
    rintro e w72 ⟨v118, fpv118, rfl, hOv118, x73⟩
    refine ⟨_, rfl, x73, ?_⟩
    have S := S.add (o := slO _ _ _ _) x73 hOv118
    have B := bx Hb B x73
    refine t_on rfl rfl ?_
    refine t_call Tryz.call26 rfl (va1 (path_mkv (S.tail.tail.tail.tail.tail.tail.tail.tail.tail.tail.tail.tail.rd)) fun cs h => spec_InterfacesUsed p28 cs _ h (by omega) (by assumption) (by assumption)) ?_ rfl rfl
    rintro e w74 ⟨v120, fpv120, rfl, hOv120, x75⟩
    refine ⟨_, rfl, x75, ?_⟩
    have S := S.add (o := slO _ _ _ _) x75 hOv120
    have B := bx Hb B x75
    refine t_on rfl rfl ?_
    refine t_callx Tryz.call24 rfl (laws_sameInts (nums (pathSteps p28)) (nums (pathSteps p28)) _ _ _ (S.tail.sl) (S.sl) (by omega) (by omega)) ?_ rfl rfl
    intro w76 x77
    have B := bx Hb B x77
    have S := S.below x77
    refine t_on rfl rfl ?_
    refine t_not rfl ?_ rfl
    refine t_pickf rfl rfl ?_ rfl
    refine t_move rfl ?_ rfl
    refine t_partp (t := 124) rfl (fun h => absurd rfl h) ?_
    intro _
    refine t_on rfl rfl ?_
    refine t_bxn S.tail.tail.tail.tail.tail.tail.tail.tail.tail.tail.tail.box ab_path sb_path rfl rfl ?_ rfl
    refine t_on rfl rfl ?_
    refine t_bxn S.tail.tail.tail.tail.tail.tail.tail.tail.tail.tail.tail.box ab_path sb_path rfl rfl ?_ rfl
    refine t_on rfl rfl ?_
    refine t_call Tryz.call28 rfl (va1 (path_mkv (S.tail.tail.tail.tail.tail.tail.tail.tail.tail.tail.tail.tail.tail.rd)) fun cs h => impl_PathSteps p28 cs _ h (by omega) (by assumption) (by assumption)) ?_ rfl rfl
    rintro e w78 ⟨v126, fpv126, rfl, hOv126, x79⟩
    refine ⟨_, rfl, x79, ?_⟩
    have S := S.add (o := slO _ _ _ _) x79 hOv126
    have B := bx Hb B x79
    refine t_on rfl rfl ?_
    refine t_call Tryz.call29 rfl (va1 (path_mkv (S.tail.tail.tail.tail.tail.tail.tail.tail.tail.tail.tail.tail.tail.tail.rd)) fun cs h => spec_PathSteps p28 cs _ h (by omega) (by assumption) (by assumption)) ?_ rfl rfl
    rintro e w80 ⟨v128, fpv128, rfl, hOv128, x81⟩
    refine ⟨_, rfl, x81, ?_⟩
    have S := S.add (o := slO _ _ _ _) x81 hOv128
    have B := bx Hb B x81
    refine t_on rfl rfl ?_
    refine t_callx Tryz.call27 rfl (laws_sameSteps (pathSteps p28) (pathSteps p28) _ _ _ (S.tail.sl) (S.sl) (by omega) (by omega)) ?_ rfl rfl
    intro w82 x83
    have B := bx Hb B x83
    have S := S.below x83
    refine t_on rfl rfl ?_
    refine t_not rfl ?_ rfl
    refine t_pickf rfl rfl ?_ rfl
    refine t_done' ?_
    refine x_seq ?_
    refine w_if rfl (fun h => absurd rfl h) ?_
    intro _
    refine w_skip ?_
    refine x_seq ?_
    refine w_seq ?_
    refine w_region ?_
    refine t_bxn S.tail.tail.tail.tail.tail.tail.tail.tail.tail.tail.tail.tail.tail.tail.tail.tail.tail.tail.box ab_path sb_path rfl rfl ?_ rfl
    refine t_call Tryz.call25 rfl (va1 (path_mkv (S.tail.tail.tail.tail.tail.tail.tail.tail.tail.tail.tail.tail.tail.tail.tail.tail.tail.tail.tail.tail.sl)) fun cs h => impl_InterfacesUsed p23 cs _ h (by omega) (by assumption) (by assumption)) ?_ rfl rfl
    rintro e w84 ⟨v133, fpv133, rfl, hOv133, x85⟩
    refine ⟨_, rfl, x85, ?_⟩
    have S := S.add (o := slO _ _ _ _) x85 hOv133
    have B := bx Hb B x85
    refine t_assign rfl ?_ rfl
    refine t_done ?_
    refine x_seq ?_
    refine w_seq ?_
    refine w_region ?_
    refine t_assign rfl ?_ rfl
    refine t_done ?_
    refine x_seq ?_
    refine w_seq ?_
    refine w_seq ?_
    refine w_region ?_
    refine t_assign rfl ?_ rfl
    refine t_done ?_
    refine x_seq ?_
    refine w_block ?_
    have S := S.f1
    have S := S.tail
    have S := S.f1
    have S := S.tail
    have S := S.f1
    have S := S.tail
    have S := S.f1
    have S := S.tail
    have S := S.f1
    have S := S.tail
    have S := S.f1
    have S := S.tail
    have S := S.f1
    have S := S.tail
    have S := S.f1
    have S := S.tail
    have S := S.f1
    have S := S.tail
    have S := S.f1
    have S := S.tail
    have S := S.f1
    have S := S.tail
    have S := S.f1
    have S := S.tail
    have S := S.f1
    have S := S.tail
    have S := S.f1
    have S := S.tail
    have S := S.f1
    have S := S.tail
    have S := S.f1
    have S := S.tail
    have S := S.f1
    have S := S.tail
    have S := S.f1
    have S := S.tail
    have S := S.f5
    have S := S.f5
    have S := S.f5
    have S := S.f5
    have S := S.f5
    have S := S.f5
    refine w_loop (X := Nat × Bool) (fun x wq => (fun i tw => i ≤ (nums (pathSteps p23)).length ∧ tw = !((List.range i).all (fresh (nums (pathSteps p23)))) ∧ Below w.heap.size w wq ∧ Sep w.heap.size wq [slO intT 3 v133 (nums (pathSteps p23)), bxO g4 30 #[vp23], bxO g3 27 #[va23, vl23], slO partT 82 vp23 p23, slO asnT 135 va23 A23, slO linkT 152 vl23 L23]) x.1 x.2) (fun x => (fun i tw => [(18, I ((i : Int))), (17, .bool tw), (2, .bool false), (3, .pointer (some ⟨g3, 0, none⟩)), (4, .pointer (some ⟨g4, 0, none⟩)), (16, v133)]) x.1 x.2) (fun x => (fun i tw => (nums (pathSteps p23)).length - i) x.1 x.2) (0, false) ?_ ⟨rfl, rfl, rfl, rfl, rfl, rfl, trivial⟩ ?_
    · exact ⟨by omega, rfl, B, S⟩
    rintro ⟨i, tw⟩ w86 hI
    try dsimp only at hI ⊢
    obtain ⟨hi, htw, B, S⟩ := hI
    refine w_seq ?_
    refine w_seq ?_
    refine w_region ?_
    refine t_move rfl ?_ rfl
    refine t_move rfl ?_ rfl
    refine t_len e_int (S.sl) rfl rfl ?_ rfl
    refine t_lss rfl rfl ?_ rfl
    refine t_done ?_
    refine x_seq ?_
    refine w_if rfl ?_ ?_
    · intro hlt
      obtain ⟨ei, hei⟩ := getx (l := nums (pathSteps p23)) (k := i) (by omega)
      have hup := fresh_upto hei
      refine w_skip ?_
      refine x_seq ?_
      refine w_seq ?_
      refine w_block ?_
      refine w_draw (.st .take 0 (.st .take 1 (.st .take 2 (.st .take 3 (.st .take 4 (.st .take 5 (.st .take 6 (.st .take 7 (.st .take 8 (.st .run 9 (.st .take 10 (.st .take 11 .done)))))))))))) mixed (by kernel_rfl) ?_
      intro w87 x88
      have B := bx Hb B x88
      have S := S.below x88
      refine t_move rfl ?_ rfl
      refine t_move rfl ?_ rfl
      refine t_part (t := 141) rfl ?_ ?_
      · intro h1
        refine t_off rfl rfl rfl ?_ rfl
        refine t_off rfl rfl rfl ?_ rfl
        refine t_off rfl rfl rfl ?_ rfl
        refine t_off rfl rfl rfl ?_ rfl
        refine t_off rfl rfl rfl ?_ rfl
        refine t_off rfl rfl rfl ?_ rfl
        refine t_off rfl rfl rfl ?_ rfl
        refine t_off rfl rfl rfl ?_ rfl
        refine t_pickt rfl rfl ?_ rfl
        refine t_assign rfl ?_ rfl
        refine t_done' ?_
        refine x_block_normal ?_
        refine x_seq ?_
        refine w_region ?_
        refine t_move rfl ?_ rfl
        refine t_add rfl rfl (by omega) ?_ rfl
        refine t_assign rfl ?_ rfl
        refine t_done ?_
        refine x_round (X := Nat × Bool) (i + 1, true) ?_ (by exact ⟨rfl, rfl, rfl, rfl, rfl, rfl, trivial⟩) (by (try dsimp only); omega)
        try dsimp only
        refine ⟨by omega, ?_, B, S⟩
        rw [hup]
        rw [h1] at htw
        have : (List.range i).all (fresh (nums (pathSteps p23))) = false := by simpa using htw.symm
        rw [this]; rfl
      · intro h1
        refine t_on rfl rfl ?_
        refine t_move rfl ?_ rfl
        refine t_on rfl rfl ?_
        refine t_move rfl ?_ rfl
        refine t_on rfl rfl ?_
        refine t_slt e_int (k := i) (S.sl) rfl rfl (by first | rfl | omega) (by omega) ?_ rfl
        intro v144 hv144
        refine t_on rfl rfl ?_
        refine t_move rfl ?_ rfl
        refine t_on rfl rfl ?_
        refine t_move rfl ?_ rfl
        refine t_on rfl rfl ?_
        refine t_idx e_int (k := i) (S.sl) hei (Below.refl _ _) rfl rfl (by first | rfl | omega) ?_ rfl
        intro p147 hp147
        refine t_on rfl rfl ?_
        refine t_ldi (by assumption) ab_int (Below.refl _ _) rfl ?_ rfl
        refine t_on rfl rfl ?_
        refine t_calls Tryz.call30 rfl (laws_in ((nums (pathSteps p23)).take i) _ _ _ (by first | assumption | exact SlR.below (by assumption) B) (by (try rw [List.length_take]); omega)) ?_ rfl rfl
        refine t_pickf rfl rfl ?_ rfl
        refine t_assign rfl ?_ rfl
        refine t_done' ?_
        refine x_block_normal ?_
        refine x_seq ?_
        refine w_region ?_
        refine t_move rfl ?_ rfl
        refine t_add rfl rfl (by omega) ?_ rfl
        refine t_assign rfl ?_ rfl
        refine t_done ?_
        refine x_round (X := Nat × Bool) (i + 1, ((nums (pathSteps p23)).take i).contains ei) ?_ (by exact ⟨rfl, rfl, rfl, rfl, rfl, rfl, trivial⟩) (by (try dsimp only); omega)
        try dsimp only
        refine ⟨by omega, ?_, B, S⟩
        rw [hup]
        rw [h1] at htw
        have : (List.range i).all (fresh (nums (pathSteps p23))) = true := by simpa using htw.symm
        rw [this]; simp
    · intro hge
      have hlen : i = (nums (pathSteps p23)).length := by omega
      subst hlen
      have hsp : simplePath ⟨A23, L23⟩ p23 = (wellFormed ⟨A23, L23⟩ p23 && !tw) := by rw [htw, Bool.not_not]; rfl
      refine w_exit ?_
      refine x_then_exit ?_
      refine x_then_exit ?_
      refine x_block_exit ?_
      refine x_seq ?_
      refine w_seq ?_
      refine w_draw (.st .take 0 (.st .take 1 (.st .run 2 (.st .take 3 (.st .take 4 (.st .take 5 (.st .take 7 (.st .take 8 (.st .run 6 (.st .run 9 (.st .take 10 (.st .take 11 (.st .take 12 (.st .take 13 (.st .take 14 (.st .take 15 (.st .take 16 .done))))))))))))))))) mixed (by kernel_rfl) ?_
      intro w89 x90
      have B := bx Hb B x90
      have S := S.below x90
      refine t_bxn S.tail.tail.box ab_topo sb_topo rfl rfl ?_ rfl
      refine t_bxn S.tail.box ab_path sb_path rfl rfl ?_ rfl
      refine t_callx Tryz.call16 rfl ((by have hq := impl_VerifyPath (⟨A23, L23⟩ : Topo) _ p23 _ _ (topo_mkv (S.tail.tail.tail.tail.sl) (S.tail.tail.tail.tail.tail.sl)) (path_mkv (S.tail.tail.tail.sl)) (by assumption) (by omega); rw [hv] at hq; exact hq)) ?_ rfl rfl
      intro w91 x92
      have B := bx Hb B x92
      have S := S.below x92
      refine t_move rfl ?_ rfl
      refine t_on rfl rfl ?_
      refine t_bxn S.tail.tail.box ab_topo sb_topo rfl rfl ?_ rfl
      refine t_on rfl rfl ?_
      refine t_bxn S.tail.box ab_path sb_path rfl rfl ?_ rfl
      refine t_on rfl rfl ?_
      refine t_bxn S.tail.tail.box ab_topo sb_topo rfl rfl ?_ rfl
      refine t_on rfl rfl ?_
      refine t_bxn S.tail.box ab_path sb_path rfl rfl ?_ rfl
      refine t_on rfl rfl ?_
      refine t_callx Tryz.call14 rfl (impl_SimplePath (⟨A23, L23⟩ : Topo) _ p23 _ _ (topo_mkv (S.tail.tail.tail.tail.sl) (S.tail.tail.tail.tail.tail.sl)) (path_mkv (S.tail.tail.tail.sl)) (by assumption) (by omega) (by assumption) (by assumption)) ?_ rfl rfl
      intro w93 x94
      have B := bx Hb B x94
      have S := S.below x94
      refine t_on rfl rfl ?_
      refine t_callx Tryz.call12 rfl (impl_WellFormedPath (⟨A23, L23⟩ : Topo) _ p23 _ _ (topo_mkv (S.tail.tail.tail.tail.sl) (S.tail.tail.tail.tail.tail.sl)) (path_mkv (S.tail.tail.tail.sl)) (by assumption) (by omega)) ?_ rfl rfl
      intro w95 x96
      have B := bx Hb B x96
      have S := S.below x96
      refine t_on rfl rfl ?_
      refine t_move rfl ?_ rfl
      refine t_part (t := 161) rfl ?_ ?_
      · intro hc1
        refine t_on rfl rfl ?_
        refine t_move rfl ?_ rfl
        refine t_on rfl rfl ?_
        refine t_notb rfl ?_ rfl
        refine t_on rfl rfl ?_
        refine t_pickt rfl rfl ?_ rfl
        refine t_on rfl rfl ?_
        refine t_eqlb Tryz.underlying4 rfl rfl ?_ rfl
        refine t_pickt rfl rfl ?_ rfl
        refine t_assign rfl ?_ rfl
        refine t_done' ?_
        refine x_seq ?_
        refine w_ret ?_
        refine x_ret1 rfl rfl ?_
        exact ⟨ret_bool (decide_eq_true (by rw [hsp]; first | (rw [show wellFormed ⟨A23, L23⟩ p23 = true by assumption]; rfl) | (rw [show wellFormed ⟨A23, L23⟩ p23 = false by assumption]; rfl))), ext_trans X0 B⟩
      · intro hc2
        refine t_off rfl rfl rfl ?_ rfl
        refine t_off rfl rfl rfl ?_ rfl
        refine t_on rfl rfl ?_
        refine t_pickf rfl rfl ?_ rfl
        refine t_on rfl rfl ?_
        refine t_eqlb Tryz.underlying4 rfl rfl ?_ rfl
        refine t_pickt rfl rfl ?_ rfl
        refine t_assign rfl ?_ rfl
        refine t_done' ?_
        refine x_seq ?_
        refine w_ret ?_
        refine x_ret1 rfl rfl ?_
        exact ⟨ret_bool (decide_eq_true (by rw [hsp]; first | (rw [show wellFormed ⟨A23, L23⟩ p23 = true by assumption]; rfl) | (rw [show wellFormed ⟨A23, L23⟩ p23 = false by assumption]; rfl))), ext_trans X0 B⟩
namespace fnPaths
open Go.ChangeShapes Go.WideShapes Go.ChangeAt
set_option maxRecDepth 100000 in
theorem lifted (os : Os) (started : os.Started) (H : Type) (enc : TypeId × Value → H) :
    ReturnsInHanded {} Tryz.checked os 3 .any (Rows.fnPathsSpec.pre6 enc Tryz.prog Tryz.f3 Rows.fnPathsRow.domain false) (Rows.fnPathsSpec.post enc Tryz.prog Tryz.f3 false true false false) := by
  refine returnsInHanded_of_change (C := Tryz.checked) knob started (by kernel_rfl) Tryz.func3
    (ChangeSpec.witness6 (enc := enc) (C := Tryz.checked) false ⟨#[], #[.slice none 0 0], []⟩ 8 (by kernel_rfl) (by kernel_rfl) (by kernel_rfl) (by kernel_rfl)) ?_
  intro W base args ds gs before hval0 hW hcnd _
  have hval : ∀ (j : Nat) t v, Tryz.f3.params[j]? = some t → args[j]? = some v → Value.okWide Tryz.prog W .any base t v := hval0
  have hW' := hW
  obtain ⟨p, q, hA0, hV, rfl, hfz, hnd⟩ := hW
  have hA : DataW.TrodAll enc Tryz.prog W 0 (fun _ => true) true Tryz.f3.params.toList args.toList ds p := hA0
  rw [Tryz.params3] at hA hval
  obtain ⟨v0, vs0, d0, ds0, p0, q0, hargs, rfl, rfl, h0, r0⟩ := trodAll_cons hA
  obtain ⟨rfl, rfl, rfl⟩ := trodAll_nil r0
  obtain rfl : args = #[v0] := by cases args; simp_all
  obtain ⟨rfl, rfl⟩ := trodVars_none hV
  have k0 := h0
  have lt0 : ∀ x ∈ p0, x.block < W.heap.size := by obtain ⟨m, hm⟩ := k0; exact DataW.trod_lt m _ _ _ hm
  obtain ⟨x0, R0, L0⟩ := open_byteS (hval 0 22 v0 rfl rfl) h0
  clear hA0 hval0
  refine (lawFnPaths x0 _ W R0 L0).mono fun e W' ⟨he, bel⟩ => ?_
  subst he
  exact ⟨_, rfl, _, _, _, [], _, [], hW', trodAll_mk1 (shut_bool Tryz.underlying4 _), (trodAll_cons_mk (Below.trod laidOut (by kernel_rfl) (of_decide_eq_true (by kernel_rfl)) k0 bel lt0) trodAll_mk0), rfl, bel.frame _, fun h => by cases h⟩
theorem jA : jnA Tryz.pinned.checked.prog Tryz.f3 Rows.fnPathsSpec Rows.fnPathsRow = true := by kernel_rfl
theorem jB : jnB Tryz.pinned.checked.prog 3 Rows.fnPathsRow = true := by kernel_rfl
theorem jC : jnC Tryz.pinned.checked.prog Tryz.f3 Rows.fnPathsSpec Rows.fnPathsRow = true := by kernel_rfl
theorem jD : jnD Tryz.pinned.checked.prog = true := by kernel_rfl
theorem jE : jnE Tryz.pinned.checked.prog = true := by kernel_rfl
theorem jF : jnF Tryz.pinned.checked.prog Rows.fnPathsRow = true := by kernel_rfl
theorem jG : jnG Tryz.pinned.checked.prog Rows.fnPathsRow = true := by kernel_rfl
theorem jH : jnH Tryz.pinned.checked.prog Tryz.f3 Rows.fnPathsRow = true := by kernel_rfl
theorem jI : jnI Rows.fnPathsRow = true := by kernel_rfl
theorem jJ : jnJ Tryz.pinned.checked.prog Tryz.f3 Rows.fnPathsSpec Rows.fnPathsRow = true := by kernel_rfl
theorem over : Rows.fnPathsRow.holds Tryz.pinned (OpenSpec.ofChange Rows.fnPathsSpec) :=
  OpenClaim.holds_of_wide 3 Tryz.f3 rfl rfl rfl rfl rfl rfl rfl ⟨rfl, rfl, rfl, rfl, rfl⟩ rfl rfl rfl rfl rfl (by kernel_rfl) Tryz.func3 (joined_of jA jB jC jD jE jF jG jH jI jJ)
    (of_decide_eq_true (by kernel_rfl)) (by unfold Func.isWrapper; first | (rw [if_pos (by decide +kernel)]; kernel_rfl) | (rw [if_neg (by decide +kernel)]; exact ⟨rfl, rfl⟩))
    (fun os started H enc _ => lifted os started H enc)
theorem proved : Rows.FnPathsSaid := over
#print axioms proved
end fnPaths
end Go.Proofs.YtdaecknfahgddaaGreat
