/- laws.FnCarries returns true, for all arguments: the walk of the law out of contracts of the draws and of what it calls, and the row. No condition. (The row: printed by law3.py.) -/
import Derived.Test.YtdaecknfahgddaaSLawFnCarries7
namespace Go.Proofs.Ytdaecknfahgddaa
open Go.RowKit
set_option linter.unusedVariables false
set_option maxRecDepth 20000
theorem laws_big (l : List UInt8) (v : Value) (w : World) (h : SlR byteT w v l) : Calls Try.prog 6 #[v] w fun e w' => e = .returned (.bool (decide ((1048576 : Int) < (l.length : Int)))) ∧ w = w' := by
  have X0 := Below.refl w.heap.size w
  refine enter Try.func6 rfl Try.ntmps6 rfl ?_
  refine w_seq ?_
  refine w_region ?_
  have S := Sep.nil w
  have B := Below.refl w.heap.size w
  have Hb := Nat.le_refl w.heap.size
  refine t_assign rfl ?_ rfl
  refine t_done ?_
  refine x_seq ?_
  refine w_seq ?_
  refine w_region ?_
  refine t_move rfl ?_ rfl
  refine t_len e_byte (by assumption) rfl rfl ?_ rfl
  refine t_gtr rfl rfl ?_ rfl
  refine t_assign rfl ?_ rfl
  refine t_done ?_
  refine x_seq ?_
  refine w_ret ?_
  refine x_ret1 rfl rfl ?_
  exact ⟨rfl, rfl⟩
theorem rp3_yes {b : List UInt8} {i : Int} {q : Path} {j : Int} (h : rp3 (readP b i) = (q, j, true)) : 0 ≤ i ∧ b.take i.toNat ++ pathEnc q = b.take j.toNat ∧ i.toNat ≤ b.length := by
  cases ho : readP b i with
  | none => rw [ho] at h; cases h
  | some r =>
    obtain ⟨q', m⟩ := r
    rw [ho] at h
    cases h
    have hb := readP_back ho
    dsimp only at hb
    have hl := congrArg List.length hb.2.2.1
    refine ⟨hb.1, hb.2.2.1.symm, ?_⟩
    unfold readP at ho
    cases hv : readVI b i with
    | none => rw [hv] at ho; cases ho
    | some z => have := readVI_out hv; omega
theorem pathOf_oky {l : List Int} (h : (pathOf l).2 = true) : pathInts (pathOf l).1 = l := (pathOf_back (p := (pathOf l).1) (by rw [← h])).1
theorem encPath_len {p : Path} (h : encPath p = true) : ∀ x ∈ p, x.hops.length ≤ 8 := fun x hx => by
  have := (encPath_part h).2 x hx
  unfold encPart encHops at this
  simp only [Bool.and_eq_true, decide_eq_true_eq] at this
  exact this.2.2.1
theorem read_write {p : Path} (h : encPath p = true) (b : List UInt8) : rp3 (readP (b ++ pathEnc p) (b.length : Int)) = (p, ((b.length + (pathEnc p).length : Nat) : Int), true) := by
  have := readP_write h b []
  rw [List.append_nil] at this
  rw [this]; rfl
set_option maxHeartbeats 8000000 in
theorem lawFnCarries (d0 : List UInt8) (v0 : Value) (w : World) (f0 : SlR byteT w v0 d0) (l0 : d0.length ≤ 9223372036854775807) :
    Calls Try.prog 5 #[v0] w fun r w' => r = .returned (.bool true) ∧ Below w.heap.size w w' := by
  have X0 := Below.refl w.heap.size w
  refine enter Try.func5 rfl Try.ntmps5 rfl ?_
  refine w_seq ?_
  refine w_region ?_
  have S := Sep.nil w
  have B := Below.refl w.heap.size w
  have Hb := Nat.le_refl w.heap.size
  refine t_assign rfl ?_ rfl
  refine t_done ?_
  refine x_seq ?_
  refine w_seq ?_
  refine w_seq ?_
  refine w_region ?_
  refine t_move rfl ?_ rfl
  refine t_calls Try.call6 rfl (laws_big _ _ _ (by first | assumption | exact SlR.below (by assumption) B)) ?_ rfl rfl
  refine t_done ?_
  refine x_seq ?_
  refine w_if rfl ?_ ?_
  · intro hb
    refine w_seq ?_
    refine w_region ?_
    refine t_assign rfl ?_ rfl
    refine t_done ?_
    refine x_seq ?_
    refine w_ret ?_
    refine x_then_ret ?_
    refine x_ret1 rfl rfl ?_
    exact ⟨rfl, ext_trans X0 B⟩
  · intro hb
    refine w_skip ?_
    refine x_seq ?_
    refine w_seq ?_
    refine w_region ?_
    refine t_move rfl ?_ rfl
    refine t_call Try.call32 rfl (spec_DrawAppendPath _ _ _ (by first | assumption | exact SlR.below (by assumption) B) (by omega)) ?_ rfl rfl
    rintro e w1 ⟨vb28, vp28, bs28, p28, rfl, hf28, S9, x2⟩
    refine ⟨_, rfl, x2, ?_⟩
    have S := S.join2 x2 S9
    clear S9
    have B := bx Hb B x2
    refine t_move rfl ?_ rfl
    refine t_extract rfl rfl ?_ rfl
    refine t_extract rfl rfl ?_ rfl
    refine t_alloc S z_path rfl ?_ rfl rfl
    intro g4 w3 x4 S
    have B := bx Hb B x4
    refine t_assign rfl ?_ rfl
    refine t_stn S sb_path rfl rfl rfl rfl (by intro zz hu; have hu : zz ∈ ([vp28] : List Value) := hu; simp only [List.mem_cons, List.not_mem_nil, or_false] at hu; rcases hu with rfl <;> first | rfl | exact (SlR.cells (by first | assumption | exact S.tail.sl | exact S.tail.tail.sl | exact S.tail.tail.tail.sl | exact S.tail.tail.tail.tail.sl | exact S.tail.tail.tail.tail.tail.sl | exact S.tail.tail.tail.tail.tail.tail.sl | exact S.tail.tail.tail.tail.tail.tail.tail.sl | exact S.tail.tail.tail.tail.tail.tail.tail.tail.sl | exact S.tail.tail.tail.tail.tail.tail.tail.tail.tail.sl | exact S.tail.tail.tail.tail.tail.tail.tail.tail.tail.tail.sl | exact S.tail.tail.tail.tail.tail.tail.tail.tail.tail.tail.tail.sl | exact S.tail.tail.tail.tail.tail.tail.tail.tail.tail.tail.tail.tail.sl | exact S.tail.tail.tail.tail.tail.tail.tail.tail.tail.tail.tail.tail.tail.sl | exact S.tail.rd | exact S.tail.tail.rd | exact S.tail.tail.tail.rd | exact S.tail.tail.tail.tail.rd | exact S.tail.tail.tail.tail.tail.rd | exact S.tail.tail.tail.tail.tail.tail.rd | exact S.tail.tail.tail.tail.tail.tail.tail.rd | exact S.tail.tail.tail.tail.tail.tail.tail.tail.rd | exact S.tail.tail.tail.tail.tail.tail.tail.tail.tail.rd | exact S.tail.tail.tail.tail.tail.tail.tail.tail.tail.tail.rd | exact S.tail.tail.tail.tail.tail.tail.tail.tail.tail.tail.tail.rd | exact S.tail.tail.tail.tail.tail.tail.tail.tail.tail.tail.tail.tail.rd | exact S.tail.tail.tail.tail.tail.tail.tail.tail.tail.tail.tail.tail.tail.rd)).2) ?_
    intro w5 b6 S
    have B := B.trans b6
    refine t_done ?_
    refine x_seq ?_
    refine w_seq ?_
    obtain ⟨hb28, hP⟩ := hf28
    have hsz := hP.sz
    have hrg := hP.rng
    have hln := hP.lenOk
    have hpe := hP.enc
    refine w_region ?_
    refine t_move rfl ?_ rfl
    refine t_bxn S.box ab_path sb_path rfl rfl ?_ rfl
    refine t_call Try.call33 rfl (impl_AppendPath bs28 _ p28 _ _ (S.tail.sl) (path_mkv (S.tail.tail.rd)) (by first | omega | (rw [List.length_take]; omega)) (by omega) (by assumption) (by assumption)) ?_ rfl rfl
    rintro e w7 ⟨v33, fpv33, rfl, hOv33, x8⟩
    refine ⟨_, rfl, x8, ?_⟩
    have S := S.add (o := slO _ _ _ _) x8 hOv33
    have B := bx Hb B x8
    refine t_assign rfl ?_ rfl
    refine t_done ?_
    refine x_seq ?_
    refine w_seq ?_
    refine w_region ?_
    refine t_move rfl ?_ rfl
    refine t_call Try.call34 rfl (spec_DrawReadPath _ _ _ (by first | assumption | exact SlR.below (by assumption) B) (by omega)) ?_ rfl rfl
    rintro e w9 ⟨vb36, bs36, i36, rfl, hf36, S9, x10⟩
    refine ⟨_, rfl, x10, ?_⟩
    have S := S.join2 x10 S9
    clear S9
    have B := bx Hb B x10
    refine t_move rfl ?_ rfl
    refine t_extract rfl rfl ?_ rfl
    refine t_extract rfl rfl ?_ rfl
    refine t_assign rfl ?_ rfl
    refine t_assign rfl ?_ rfl
    refine t_done ?_
    refine x_seq ?_
    refine w_seq ?_
    obtain ⟨hb36, hi0⟩ := hf36
    obtain ⟨q0, j0, ok0, hrp⟩ : ∃ q j ok, rp3 (readP bs36 i36) = (q, j, ok) := ⟨_, _, _, rfl⟩
    have hq := rp3_out hrp
    have hqr := enc_rng hq.2.1
    obtain ⟨hqr1, hqr2⟩ := hqr
    have hqe := pathEnc_len q0 (by omega)
    refine w_region ?_
    refine t_move rfl ?_ rfl
    refine t_move rfl ?_ rfl
    refine t_call Try.call35 rfl (impl_ReadPath _ _ _ _ (S.rd) (by omega) hi0.2 hrp) ?_ rfl rfl
    rintro e w11 ⟨cs42, fp42, rfl, hO42, x12⟩
    refine ⟨_, rfl, x12, ?_⟩
    have S := S.add (o := tyO pathT _ _) x12 hO42
    have B := bx Hb B x12
    obtain ⟨u42_0, heq, S2⟩ := S.pathOpen
    subst heq
    have S := S2
    clear S2
    refine t_move rfl ?_ rfl
    refine t_extract rfl rfl ?_ rfl
    refine t_extract rfl rfl ?_ rfl
    refine t_extract rfl rfl ?_ rfl
    refine t_alloc S z_path rfl ?_ rfl rfl
    intro g8 w13 x14 S
    have B := bx Hb B x14
    refine t_stn S sb_path rfl rfl rfl rfl (by intro zz hu; have hu : zz ∈ ([u42_0] : List Value) := hu; simp only [List.mem_cons, List.not_mem_nil, or_false] at hu; rcases hu with rfl <;> first | rfl | exact (SlR.cells (by first | assumption | exact S.tail.sl | exact S.tail.tail.sl | exact S.tail.tail.tail.sl | exact S.tail.tail.tail.tail.sl | exact S.tail.tail.tail.tail.tail.sl | exact S.tail.tail.tail.tail.tail.tail.sl | exact S.tail.tail.tail.tail.tail.tail.tail.sl | exact S.tail.tail.tail.tail.tail.tail.tail.tail.sl | exact S.tail.tail.tail.tail.tail.tail.tail.tail.tail.sl | exact S.tail.tail.tail.tail.tail.tail.tail.tail.tail.tail.sl | exact S.tail.tail.tail.tail.tail.tail.tail.tail.tail.tail.tail.sl | exact S.tail.tail.tail.tail.tail.tail.tail.tail.tail.tail.tail.tail.sl | exact S.tail.tail.tail.tail.tail.tail.tail.tail.tail.tail.tail.tail.tail.sl)).2) ?_
    intro w15 b16 S
    have B := B.trans b16
    refine t_assign rfl ?_ rfl
    refine t_assign rfl ?_ rfl
    refine t_done ?_
    refine x_seq ?_
    refine w_seq ?_
    refine w_region ?_
    refine t_move rfl ?_ rfl
    refine t_move rfl ?_ rfl
    refine t_call Try.call36 rfl (spec_ReadPath _ _ _ _ (S.tail.tail.rd) (by omega) hi0.2 hrp) ?_ rfl rfl
    rintro e w17 ⟨cs49, fp49, rfl, hO49, x18⟩
    refine ⟨_, rfl, x18, ?_⟩
    have S := S.add (o := tyO pathT _ _) x18 hO49
    have B := bx Hb B x18
    obtain ⟨u49_0, heq, S2⟩ := S.pathOpen
    subst heq
    have S := S2
    clear S2
    refine t_move rfl ?_ rfl
    refine t_extract rfl rfl ?_ rfl
    refine t_extract rfl rfl ?_ rfl
    refine t_extract rfl rfl ?_ rfl
    refine t_alloc S z_path rfl ?_ rfl rfl
    intro g11 w19 x20 S
    have B := bx Hb B x20
    refine t_stn S sb_path rfl rfl rfl rfl (by intro zz hu; have hu : zz ∈ ([u49_0] : List Value) := hu; simp only [List.mem_cons, List.not_mem_nil, or_false] at hu; rcases hu with rfl <;> first | rfl | exact (SlR.cells (by first | assumption | exact S.tail.sl | exact S.tail.tail.sl | exact S.tail.tail.tail.sl | exact S.tail.tail.tail.tail.sl | exact S.tail.tail.tail.tail.tail.sl | exact S.tail.tail.tail.tail.tail.tail.sl | exact S.tail.tail.tail.tail.tail.tail.tail.sl | exact S.tail.tail.tail.tail.tail.tail.tail.tail.sl | exact S.tail.tail.tail.tail.tail.tail.tail.tail.tail.sl | exact S.tail.tail.tail.tail.tail.tail.tail.tail.tail.tail.sl | exact S.tail.tail.tail.tail.tail.tail.tail.tail.tail.tail.tail.sl | exact S.tail.tail.tail.tail.tail.tail.tail.tail.tail.tail.tail.tail.sl | exact S.tail.tail.tail.tail.tail.tail.tail.tail.tail.tail.tail.tail.tail.sl)).2) ?_
    intro w21 b22 S
    have B := B.trans b22
    refine t_assign rfl ?_ rfl
    refine t_assign rfl ?_ rfl
    refine t_done ?_
    refine x_seq ?_
    refine w_seq ?_
    refine w_region ?_
    refine t_move rfl ?_ rfl
    refine t_call Try.call37 rfl (spec_DrawPathFromInts _ _ _ (by first | assumption | exact SlR.below (by assumption) B) (by omega)) ?_ rfl rfl
    rintro e w23 ⟨vb54, l54, rfl, hf54, S9, x24⟩
    refine ⟨_, rfl, x24, ?_⟩
    have S := S.join2 x24 S9
    clear S9
    have B := bx Hb B x24
    refine t_assign rfl ?_ rfl
    refine t_done ?_
    refine x_seq ?_
    refine w_seq ?_
    obtain ⟨hl54, hi54⟩ := hf54
    have hy := pathOf_sz l54
    have hyl := pathInts_len (pathOf l54).1
    have hpl := pathInts_len p28
    refine w_region ?_
    refine t_move rfl ?_ rfl
    refine t_call Try.call38 rfl (impl_PathFromInts _ _ _ (S.rd) (by omega) (by assumption)) ?_ rfl rfl
    rintro e w25 ⟨cs57, fp57, rfl, hO57, x26⟩
    refine ⟨_, rfl, x26, ?_⟩
    have S := S.add (o := tyO pathT _ _) x26 hO57
    have B := bx Hb B x26
    obtain ⟨u57_0, heq, S2⟩ := S.pathOpen
    subst heq
    have S := S2
    clear S2
    refine t_move rfl ?_ rfl
    refine t_extract rfl rfl ?_ rfl
    refine t_extract rfl rfl ?_ rfl
    refine t_alloc S z_path rfl ?_ rfl rfl
    intro g15 w27 x28 S
    have B := bx Hb B x28
    refine t_stn S sb_path rfl rfl rfl rfl (by intro zz hu; have hu : zz ∈ ([u57_0] : List Value) := hu; simp only [List.mem_cons, List.not_mem_nil, or_false] at hu; rcases hu with rfl <;> first | rfl | exact (SlR.cells (by first | assumption | exact S.tail.sl | exact S.tail.tail.sl | exact S.tail.tail.tail.sl | exact S.tail.tail.tail.tail.sl | exact S.tail.tail.tail.tail.tail.sl | exact S.tail.tail.tail.tail.tail.tail.sl | exact S.tail.tail.tail.tail.tail.tail.tail.sl | exact S.tail.tail.tail.tail.tail.tail.tail.tail.sl | exact S.tail.tail.tail.tail.tail.tail.tail.tail.tail.sl | exact S.tail.tail.tail.tail.tail.tail.tail.tail.tail.tail.sl | exact S.tail.tail.tail.tail.tail.tail.tail.tail.tail.tail.tail.sl | exact S.tail.tail.tail.tail.tail.tail.tail.tail.tail.tail.tail.tail.sl | exact S.tail.tail.tail.tail.tail.tail.tail.tail.tail.tail.tail.tail.tail.sl)).2) ?_
    intro w29 b30 S
    have B := B.trans b30
    refine t_assign rfl ?_ rfl
    refine t_done ?_
    refine x_seq ?_
    refine w_seq ?_
    refine w_region ?_
    refine t_move rfl ?_ rfl
    refine t_call Try.call39 rfl (spec_PathFromInts _ _ _ (S.tail.tail.rd) (by omega) (by assumption)) ?_ rfl rfl
    rintro e w31 ⟨cs62, fp62, rfl, hO62, x32⟩
    refine ⟨_, rfl, x32, ?_⟩
    have S := S.add (o := tyO pathT _ _) x32 hO62
    have B := bx Hb B x32
    obtain ⟨u62_0, heq, S2⟩ := S.pathOpen
    subst heq
    have S := S2
    clear S2
    refine t_move rfl ?_ rfl
    refine t_extract rfl rfl ?_ rfl
    refine t_extract rfl rfl ?_ rfl
    refine t_alloc S z_path rfl ?_ rfl rfl
    intro g17 w33 x34 S
    have B := bx Hb B x34
    refine t_stn S sb_path rfl rfl rfl rfl (by intro zz hu; have hu : zz ∈ ([u62_0] : List Value) := hu; simp only [List.mem_cons, List.not_mem_nil, or_false] at hu; rcases hu with rfl <;> first | rfl | exact (SlR.cells (by first | assumption | exact S.tail.sl | exact S.tail.tail.sl | exact S.tail.tail.tail.sl | exact S.tail.tail.tail.tail.sl | exact S.tail.tail.tail.tail.tail.sl | exact S.tail.tail.tail.tail.tail.tail.sl | exact S.tail.tail.tail.tail.tail.tail.tail.sl | exact S.tail.tail.tail.tail.tail.tail.tail.tail.sl | exact S.tail.tail.tail.tail.tail.tail.tail.tail.tail.sl | exact S.tail.tail.tail.tail.tail.tail.tail.tail.tail.tail.sl | exact S.tail.tail.tail.tail.tail.tail.tail.tail.tail.tail.tail.sl | exact S.tail.tail.tail.tail.tail.tail.tail.tail.tail.tail.tail.tail.sl | exact S.tail.tail.tail.tail.tail.tail.tail.tail.tail.tail.tail.tail.tail.sl)).2) ?_
    intro w35 b36 S
    have B := B.trans b36
    refine t_assign rfl ?_ rfl
    refine t_done ?_
    refine x_seq ?_
    refine w_seq ?_
    refine w_seq ?_
    refine w_draw (.st .take 0 (.st .take 1 (.st .take 2 (.st .run 3 (.st .run 4 (.st .take 5 (.st .take 6 (.st .take 7 (.st .take 8 (.st .run 9 (.st .take 10 (.st .take 11 (.st .take 12 (.st .take 13 (.st .take 14 (.st .take 15 (.st .take 16 (.st .take 17 (.st .take 18 (.st .take 19 (.st .take 20 (.st .take 21 (.st .take 22 (.st .take 23 (.st .take 24 (.st .run 25 (.st .take 26 (.st .take 27 (.st .take 28 (.st .take 29 (.st .take 30 (.st .take 31 (.st .take 32 (.st .take 33 (.st .take 34 (.st .take 36 (.st .run 35 (.st .run 37 (.st .run 38 (.st .take 39 (.st .take 40 (.st .take 41 (.st .take 42 (.st .take 44 (.st .run 43 (.st .run 45 (.st .take 46 (.st .take 47 (.st .take 48 (.st .take 49 (.st .take 51 (.st .run 50 (.st .run 52 (.st .take 53 (.st .take 54 (.st .take 55 (.st .take 56 (.st .take 58 (.st .run 57 (.st .run 59 (.st .take 60 (.st .take 61 .done)))))))))))))))))))))))))))))))))))))))))))))))))))))))))))))) mixed (by kernel_rfl) ?_
    intro w37 x38
    have B := bx Hb B x38
    have S := S.below x38
    refine t_move rfl ?_ rfl
    refine t_move rfl ?_ rfl
    refine t_bxn S.tail.tail.tail.tail.tail.tail.tail.tail.tail.tail.tail.box ab_path sb_path rfl rfl ?_ rfl
    refine t_call Try.call41 rfl (spec_AppendPath bs28 _ p28 _ _ (S.tail.tail.tail.tail.tail.tail.tail.tail.tail.tail.tail.tail.sl) (path_mkv (S.tail.tail.tail.tail.tail.tail.tail.tail.tail.tail.tail.tail.tail.rd)) (by first | omega | (rw [List.length_take]; omega)) (by omega) (by assumption) (by assumption)) ?_ rfl rfl
    rintro e w39 ⟨v68, fpv68, rfl, hOv68, x40⟩
    refine ⟨_, rfl, x40, ?_⟩
    have S := S.add (o := slO _ _ _ _) x40 hOv68
    have B := bx Hb B x40
    refine t_callx Try.call40 rfl (laws_same (bs28 ++ pathEnc p28) (bs28 ++ pathEnc p28) _ _ _ (S.tail.tail.tail.tail.tail.tail.tail.tail.tail.tail.tail.sl) (S.sl) (by (try simp only [List.length_append, List.length_take]); omega) (by (try simp only [List.length_append, List.length_take]); omega)) ?_ rfl rfl
    intro w41 x42
    have B := bx Hb B x42
    have S := S.below x42
    refine t_not rfl ?_ rfl
    refine t_move rfl ?_ rfl
    refine t_partp (t := 71) rfl (fun h => absurd rfl h) ?_
    intro _
    refine t_on rfl rfl ?_
    refine t_bxn S.tail.tail.tail.tail.tail.tail.tail.tail.box ab_path sb_path rfl rfl ?_ rfl
    refine t_on rfl rfl ?_
    refine t_bxn S.tail.tail.tail.tail.tail.tail.box ab_path sb_path rfl rfl ?_ rfl
    refine t_on rfl rfl ?_
    refine t_callx Try.call42 rfl (laws_samePath q0 q0 _ _ _ (path_mkv (S.tail.tail.tail.tail.tail.tail.tail.tail.tail.sl)) (path_mkv (S.tail.tail.tail.tail.tail.tail.tail.sl)) (by omega) (by omega)) ?_ rfl rfl
    intro w43 x44
    have B := bx Hb B x44
    have S := S.below x44
    refine t_on rfl rfl ?_
    refine t_not rfl ?_ rfl
    refine t_pickf rfl rfl ?_ rfl
    refine t_move rfl ?_ rfl
    refine t_partp (t := 77) rfl (fun h => absurd rfl h) ?_
    intro _
    refine t_on rfl rfl ?_
    refine t_move rfl ?_ rfl
    refine t_on rfl rfl ?_
    refine t_move rfl ?_ rfl
    refine t_on rfl rfl ?_
    refine t_neq rfl rfl ?_ rfl
    refine t_pickf rfl rfl ?_ rfl
    refine t_move rfl ?_ rfl
    refine t_partp (t := 82) rfl (fun h => absurd rfl h) ?_
    intro _
    refine t_on rfl rfl ?_
    refine t_move rfl ?_ rfl
    refine t_on rfl rfl ?_
    refine t_move rfl ?_ rfl
    refine t_on rfl rfl ?_
    refine t_neqb Try.underlying4 rfl rfl ?_ rfl
    refine t_pickf rfl rfl ?_ rfl
    refine t_move rfl ?_ rfl
    refine t_partp (t := 87) rfl (fun h => absurd rfl h) ?_
    intro _
    refine t_on rfl rfl ?_
    refine t_bxn S.tail.tail.tail.box ab_path sb_path rfl rfl ?_ rfl
    refine t_on rfl rfl ?_
    refine t_bxn S.tail.box ab_path sb_path rfl rfl ?_ rfl
    refine t_on rfl rfl ?_
    refine t_callx Try.call42 rfl (laws_samePath ((pathOf l54).1) ((pathOf l54).1) _ _ _ (path_mkv (S.tail.tail.tail.tail.sl)) (path_mkv (S.tail.tail.sl)) (by omega) (by omega)) ?_ rfl rfl
    intro w45 x46
    have B := bx Hb B x46
    have S := S.below x46
    refine t_on rfl rfl ?_
    refine t_not rfl ?_ rfl
    refine t_pickf rfl rfl ?_ rfl
    refine t_move rfl ?_ rfl
    refine t_partp (t := 93) rfl (fun h => absurd rfl h) ?_
    intro _
    refine t_on rfl rfl ?_
    refine t_move rfl ?_ rfl
    refine t_on rfl rfl ?_
    refine t_move rfl ?_ rfl
    refine t_on rfl rfl ?_
    refine t_neqb Try.underlying4 rfl rfl ?_ rfl
    refine t_pickf rfl rfl ?_ rfl
    refine t_move rfl ?_ rfl
    refine t_partp (t := 98) rfl (fun h => absurd rfl h) ?_
    intro _
    refine t_on rfl rfl ?_
    refine t_bxn S.tail.tail.tail.tail.tail.tail.tail.tail.tail.tail.tail.tail.box ab_path sb_path rfl rfl ?_ rfl
    refine t_on rfl rfl ?_
    refine t_bxn S.tail.tail.tail.tail.tail.tail.tail.tail.tail.tail.tail.tail.box ab_path sb_path rfl rfl ?_ rfl
    refine t_on rfl rfl ?_
    refine t_call Try.call44 rfl (impl_PathInts _ _ _ (path_mkv (S.tail.tail.tail.tail.tail.tail.tail.tail.tail.tail.tail.tail.tail.tail.rd)) (by omega)) ?_ rfl rfl
    rintro e w47 ⟨v100, fpv100, rfl, hOv100, x48⟩
    refine ⟨_, rfl, x48, ?_⟩
    have S := S.add (o := slO _ _ _ _) x48 hOv100
    have B := bx Hb B x48
    refine t_on rfl rfl ?_
    refine t_call Try.call45 rfl (va1 (path_mkv (S.tail.tail.tail.tail.tail.tail.tail.tail.tail.tail.tail.tail.tail.tail.tail.rd)) fun cs h => spec_PathInts _ cs _ h (by omega) (by assumption) (by assumption)) ?_ rfl rfl
    rintro e w49 ⟨v102, fpv102, rfl, hOv102, x50⟩
    refine ⟨_, rfl, x50, ?_⟩
    have S := S.add (o := slO _ _ _ _) x50 hOv102
    have B := bx Hb B x50
    refine t_on rfl rfl ?_
    refine t_callx Try.call43 rfl (laws_sameInts (pathInts p28) (pathInts p28) _ _ _ (S.tail.sl) (S.sl) (by omega) (by omega)) ?_ rfl rfl
    intro w51 x52
    have B := bx Hb B x52
    have S := S.below x52
    refine t_on rfl rfl ?_
    refine t_not rfl ?_ rfl
    refine t_pickf rfl rfl ?_ rfl
    refine t_move rfl ?_ rfl
    refine t_partp (t := 106) rfl (fun h => absurd rfl h) ?_
    intro _
    refine t_on rfl rfl ?_
    refine t_bxn S.tail.tail.tail.tail.tail.tail.tail.tail.tail.tail.tail.tail.tail.tail.box ab_path sb_path rfl rfl ?_ rfl
    refine t_on rfl rfl ?_
    refine t_bxn S.tail.tail.tail.tail.tail.tail.tail.tail.tail.tail.tail.tail.tail.tail.box ab_path sb_path rfl rfl ?_ rfl
    refine t_on rfl rfl ?_
    refine t_callx Try.call46 rfl (impl_PathSize p28 _ _ (path_mkv (S.tail.tail.tail.tail.tail.tail.tail.tail.tail.tail.tail.tail.tail.tail.tail.tail.rd)) (by omega) (by assumption) (by assumption)) ?_ rfl rfl
    intro w53 x54
    have B := bx Hb B x54
    have S := S.below x54
    refine t_on rfl rfl ?_
    refine t_callx Try.call47 rfl (spec_PathSize p28 _ _ (path_mkv (S.tail.tail.tail.tail.tail.tail.tail.tail.tail.tail.tail.tail.tail.tail.tail.tail.rd)) (by omega) (by assumption) (by assumption)) ?_ rfl rfl
    intro w55 x56
    have B := bx Hb B x56
    have S := S.below x56
    refine t_on rfl rfl ?_
    refine t_neq rfl rfl ?_ rfl
    refine t_pickf rfl rfl ?_ rfl
    refine t_move rfl ?_ rfl
    refine t_partp (t := 113) rfl (fun h => absurd rfl h) ?_
    intro _
    refine t_on rfl rfl ?_
    refine t_bxn S.tail.tail.tail.tail.tail.tail.tail.tail.tail.tail.tail.tail.tail.tail.box ab_path sb_path rfl rfl ?_ rfl
    refine t_on rfl rfl ?_
    refine t_bxn S.tail.tail.tail.tail.tail.tail.tail.tail.tail.tail.tail.tail.tail.tail.box ab_path sb_path rfl rfl ?_ rfl
    refine t_on rfl rfl ?_
    refine t_callx Try.call48 rfl (va1 (path_mkv (S.tail.tail.tail.tail.tail.tail.tail.tail.tail.tail.tail.tail.tail.tail.tail.tail.rd)) fun cs h => impl_HopCount p28 cs _ h (by omega) (by assumption) (by assumption)) ?_ rfl rfl
    intro w57 x58
    have B := bx Hb B x58
    have S := S.below x58
    refine t_on rfl rfl ?_
    refine t_callx Try.call49 rfl (va1 (path_mkv (S.tail.tail.tail.tail.tail.tail.tail.tail.tail.tail.tail.tail.tail.tail.tail.tail.rd)) fun cs h => spec_HopCount p28 cs _ h (by omega) (by assumption) (by assumption)) ?_ rfl rfl
    intro w59 x60
    have B := bx Hb B x60
    have S := S.below x60
    refine t_on rfl rfl ?_
    refine t_neq rfl rfl ?_ rfl
    refine t_pickf rfl rfl ?_ rfl
    refine t_move rfl ?_ rfl
    refine t_partp (t := 120) rfl (fun h => absurd rfl h) ?_
    intro _
    refine t_on rfl rfl ?_
    refine t_bxn S.tail.tail.tail.tail.tail.tail.tail.tail.tail.tail.tail.tail.tail.tail.box ab_path sb_path rfl rfl ?_ rfl
    refine t_on rfl rfl ?_
    refine t_bxn S.tail.tail.tail.tail.tail.tail.tail.tail.tail.tail.tail.tail.tail.tail.box ab_path sb_path rfl rfl ?_ rfl
    refine t_on rfl rfl ?_
    refine t_callx Try.call50 rfl (va1 (path_mkv (S.tail.tail.tail.tail.tail.tail.tail.tail.tail.tail.tail.tail.tail.tail.tail.tail.rd)) fun cs h => impl_EncodablePath p28 cs _ h (by omega) (by assumption) (by assumption)) ?_ rfl rfl
    intro w61 x62
    have B := bx Hb B x62
    have S := S.below x62
    refine t_on rfl rfl ?_
    refine t_callx Try.call51 rfl (va1 (path_mkv (S.tail.tail.tail.tail.tail.tail.tail.tail.tail.tail.tail.tail.tail.tail.tail.tail.rd)) fun cs h => spec_EncodablePath p28 cs _ h (by omega) (by assumption) (by assumption)) ?_ rfl rfl
    intro w63 x64
    have B := bx Hb B x64
    have S := S.below x64
    refine t_on rfl rfl ?_
    refine t_neqb Try.underlying4 rfl rfl ?_ rfl
    refine t_pickf rfl rfl ?_ rfl
    refine t_done' ?_
    refine x_seq ?_
    refine w_if rfl (fun h => absurd rfl h) ?_
    intro _
    refine w_skip ?_
    refine x_seq ?_
    refine w_seq ?_
    refine w_cut (X := Unit) (fun u wq => Below w.heap.size w wq ∧ Sep w.heap.size wq [slO intT 3 v102 (pathInts p28), slO intT 3 v100 (pathInts p28), slO byteT 5 v68 (bs28 ++ pathEnc p28), bxO g17 30 #[u62_0], slO partT 71 u62_0 ((pathOf l54).1), bxO g15 30 #[u57_0], slO partT 71 u57_0 ((pathOf l54).1), rdO intT vb54 l54, bxO g11 30 #[u49_0], slO partT 71 u49_0 q0, bxO g8 30 #[u42_0], slO partT 71 u42_0 q0, rdO byteT vb36 bs36, slO byteT 5 v33 (bs28 ++ pathEnc p28), bxO g4 30 #[vp28], slO byteT 5 vb28 bs28, rdO partT vp28 p28]) (fun u => [(4, .pointer (some ⟨g4, 0, none⟩)), (3, vb28), (5, v33)]) ?_ ?_
    · refine w_seq ?_
      refine w_draw (.st .take 0 (.st .take 1 (.st .take 2 (.st .run 3 (.st .take 4 (.st .take 5 (.st .take 6 (.st .take 7 (.st .take 8 (.st .take 9 (.st .take 11 (.st .take 12 (.st .take 13 (.st .run 10 (.st .run 14 (.st .take 15 (.st .take 16 (.st .take 17 (.st .take 18 (.st .take 19 (.st .take 20 (.st .take 21 (.st .take 23 (.st .run 22 (.st .run 24 (.st .take 25 (.st .take 26 (.st .take 27 .done)))))))))))))))))))))))))))) mixed (by kernel_rfl) ?_
      intro w65 x66
      have B := bx Hb B x66
      have S := S.below x66
      refine t_move rfl ?_ rfl
      refine t_move rfl ?_ rfl
      have second : (pathOf l54).2 = true → pathInts (pathOf l54).1 = l54 := pathOf_oky
      refine t_part (t := 128) rfl ?_ ?_
      · intro hok
        have hr := rp3_yes (hrp.trans (by rw [hok]))
        refine t_on rfl rfl ?_
        refine t_bxn S.tail.tail.tail.tail.tail.tail.tail.tail.tail.tail.box ab_path sb_path rfl rfl ?_ rfl
        refine t_on rfl rfl ?_
        refine t_callx Try.call50 rfl (va1 (path_mkv (S.tail.tail.tail.tail.tail.tail.tail.tail.tail.tail.tail.sl)) fun cs h => impl_EncodablePath q0 cs _ h (by omega) (by assumption) (by assumption)) ?_ rfl rfl
        intro w67 x68
        have B := bx Hb B x68
        have S := S.below x68
        refine t_on rfl rfl ?_
        refine t_notb rfl ?_ rfl
        refine t_on rfl rfl ?_
        refine t_move rfl ?_ rfl
        refine t_part (t := 132) rfl (fun h => (by rw [hq.2.1] at h; cases h)) ?_
        intro hc132
        refine t_on rfl rfl ?_
        refine t_move rfl ?_ rfl
        refine t_on rfl rfl ?_
        refine t_move rfl ?_ rfl
        refine t_on rfl rfl ?_
        refine t_slt e_byte (k := i36.toNat) (S.tail.tail.tail.tail.tail.tail.tail.tail.tail.tail.tail.tail.rd) rfl rfl (by first | rfl | omega) (by omega) ?_ rfl
        intro v135 hv135
        refine t_on rfl rfl ?_
        refine t_bxn S.tail.tail.tail.tail.tail.tail.tail.tail.tail.tail.box ab_path sb_path rfl rfl ?_ rfl
        refine t_on rfl rfl ?_
        refine t_move rfl ?_ rfl
        refine t_on rfl rfl ?_
        refine t_move rfl ?_ rfl
        refine t_on rfl rfl ?_
        refine t_slt e_byte (k := j0.toNat) (S.tail.tail.tail.tail.tail.tail.tail.tail.tail.tail.tail.tail.rd) rfl rfl (by first | rfl | omega) (by omega) ?_ rfl
        intro v140 hv140
        refine t_on rfl rfl ?_
        refine t_call Try.call33 rfl (impl_AppendPath (bs36.take i36.toNat) _ q0 _ _ (by first | assumption | exact SlR.below (by assumption) B) (path_mkv (S.tail.tail.tail.tail.tail.tail.tail.tail.tail.tail.tail.sl)) (by first | omega | (rw [List.length_take]; omega)) (by omega) (by assumption) (by assumption)) ?_ rfl rfl
        rintro e w69 ⟨v137, fpv137, rfl, hOv137, x70⟩
        refine ⟨_, rfl, x70, ?_⟩
        have S := S.add (o := slO _ _ _ _) x70 hOv137
        have B := bx Hb B x70
        replace hv135 := hv135.below x70
        replace hv140 := hv140.below x70
        refine t_on rfl rfl ?_
        refine t_callx Try.call40 rfl (laws_same ((bs36.take i36.toNat) ++ pathEnc q0) (bs36.take j0.toNat) _ _ _ (S.sl) (by first | assumption | exact SlR.below (by assumption) B) (by (try simp only [List.length_append, List.length_take]); omega) (by (try simp only [List.length_append, List.length_take]); omega)) ?_ rfl rfl
        intro w71 x72
        have B := bx Hb B x72
        have S := S.below x72
        replace hv135 := hv135.below x72
        replace hv140 := hv140.below x72
        refine t_on rfl rfl ?_
        refine t_not rfl ?_ rfl
        refine t_on rfl rfl ?_
        refine t_pickf rfl rfl ?_ rfl
        refine t_pickt rfl rfl ?_ rfl
        refine t_move rfl ?_ rfl
        refine t_partp (t := 145) rfl (fun h => (by exact absurd hr.2.1 h)) ?_
        intro hc145
        refine t_on rfl rfl ?_
        refine t_move rfl ?_ rfl
        refine t_on rfl rfl ?_
        refine t_move rfl ?_ rfl
        refine t_part (t := 147) rfl ?_ ?_
        · intro hm
          refine t_on rfl rfl ?_
          refine t_bxn S.tail.tail.tail.tail.tail.tail.box ab_path sb_path rfl rfl ?_ rfl
          refine t_on rfl rfl ?_
          refine t_move rfl ?_ rfl
          refine t_on rfl rfl ?_
          refine t_call Try.call44 rfl (impl_PathInts _ _ _ (path_mkv (S.tail.tail.tail.tail.tail.tail.tail.sl)) (by omega)) ?_ rfl rfl
          rintro e w73 ⟨v149, fpv149, rfl, hOv149, x74⟩
          refine ⟨_, rfl, x74, ?_⟩
          have S := S.add (o := slO _ _ _ _) x74 hOv149
          have B := bx Hb B x74
          replace hv135 := hv135.below x74
          replace hv140 := hv140.below x74
          refine t_on rfl rfl ?_
          refine t_callx Try.call43 rfl (laws_sameInts (pathInts ((pathOf l54).1)) l54 _ _ _ (S.sl) (S.tail.tail.tail.tail.tail.tail.tail.tail.tail.rd) (by omega) (by omega)) ?_ rfl rfl
          intro w75 x76
          have B := bx Hb B x76
          have S := S.below x76
          replace hv135 := hv135.below x76
          replace hv140 := hv140.below x76
          refine t_on rfl rfl ?_
          refine t_not rfl ?_ rfl
          refine t_on rfl rfl ?_
          refine t_pickt rfl rfl ?_ rfl
          refine t_pickf rfl rfl ?_ rfl
          refine t_done' ?_
          refine x_seq ?_
          refine w_if rfl (fun h => (by exact absurd (second hm) h)) ?_
          intro hc154
          refine w_skip ?_
          have S := S.tail
          have S := S.tail
          refine x_cut (X := Unit) (I := (fun u wq => Below w.heap.size w wq ∧ Sep w.heap.size wq [slO intT 3 v102 (pathInts p28), slO intT 3 v100 (pathInts p28), slO byteT 5 v68 (bs28 ++ pathEnc p28), bxO g17 30 #[u62_0], slO partT 71 u62_0 ((pathOf l54).1), bxO g15 30 #[u57_0], slO partT 71 u57_0 ((pathOf l54).1), rdO intT vb54 l54, bxO g11 30 #[u49_0], slO partT 71 u49_0 q0, bxO g8 30 #[u42_0], slO partT 71 u42_0 q0, rdO byteT vb36 bs36, slO byteT 5 v33 (bs28 ++ pathEnc p28), bxO g4 30 #[vp28], slO byteT 5 vb28 bs28, rdO partT vp28 p28])) (F := (fun u => [(4, .pointer (some ⟨g4, 0, none⟩)), (3, vb28), (5, v33)])) (()) ?_ ?_
          rotate_left
          · exact ⟨rfl, rfl, rfl, trivial⟩
          try dsimp only
          exact ⟨B, S⟩
        · intro hm
          refine t_off rfl rfl rfl ?_ rfl
          refine t_off rfl rfl rfl ?_ rfl
          refine t_off rfl rfl rfl ?_ rfl
          refine t_off rfl rfl rfl ?_ rfl
          refine t_off rfl rfl rfl ?_ rfl
          refine t_on rfl rfl ?_
          refine t_pickf rfl rfl ?_ rfl
          refine t_pickf rfl rfl ?_ rfl
          refine t_done' ?_
          refine x_seq ?_
          refine w_no rfl ?_
          refine w_skip ?_
          have S := S.tail
          refine x_cut (X := Unit) (I := (fun u wq => Below w.heap.size w wq ∧ Sep w.heap.size wq [slO intT 3 v102 (pathInts p28), slO intT 3 v100 (pathInts p28), slO byteT 5 v68 (bs28 ++ pathEnc p28), bxO g17 30 #[u62_0], slO partT 71 u62_0 ((pathOf l54).1), bxO g15 30 #[u57_0], slO partT 71 u57_0 ((pathOf l54).1), rdO intT vb54 l54, bxO g11 30 #[u49_0], slO partT 71 u49_0 q0, bxO g8 30 #[u42_0], slO partT 71 u42_0 q0, rdO byteT vb36 bs36, slO byteT 5 v33 (bs28 ++ pathEnc p28), bxO g4 30 #[vp28], slO byteT 5 vb28 bs28, rdO partT vp28 p28])) (F := (fun u => [(4, .pointer (some ⟨g4, 0, none⟩)), (3, vb28), (5, v33)])) (()) ?_ ?_
          rotate_left
          · exact ⟨rfl, rfl, rfl, trivial⟩
          try dsimp only
          exact ⟨B, S⟩
      · intro hok
        refine t_off rfl rfl rfl ?_ rfl
        refine t_off rfl rfl rfl ?_ rfl
        refine t_off rfl rfl rfl ?_ rfl
        refine t_off rfl rfl rfl ?_ rfl
        refine t_offu rfl rfl ?_ rfl
        refine t_offu rfl rfl ?_ rfl
        refine t_offu rfl rfl ?_ rfl
        refine t_offu rfl rfl ?_ rfl
        refine t_offu rfl rfl ?_ rfl
        refine t_offu rfl rfl ?_ rfl
        refine t_offu rfl rfl ?_ rfl
        refine t_offu rfl rfl ?_ rfl
        refine t_offu rfl rfl ?_ rfl
        refine t_offu rfl rfl ?_ rfl
        refine t_off rfl rfl rfl ?_ rfl
        refine t_pickf rfl rfl ?_ rfl
        refine t_move rfl ?_ rfl
        refine t_on rfl rfl ?_
        refine t_move rfl ?_ rfl
        refine t_on rfl rfl ?_
        refine t_move rfl ?_ rfl
        refine t_part (t := 147) rfl ?_ ?_
        · intro hm
          refine t_on rfl rfl ?_
          refine t_bxn S.tail.tail.tail.tail.tail.box ab_path sb_path rfl rfl ?_ rfl
          refine t_on rfl rfl ?_
          refine t_move rfl ?_ rfl
          refine t_on rfl rfl ?_
          refine t_call Try.call44 rfl (impl_PathInts _ _ _ (path_mkv (S.tail.tail.tail.tail.tail.tail.sl)) (by omega)) ?_ rfl rfl
          rintro e w77 ⟨v149, fpv149, rfl, hOv149, x78⟩
          refine ⟨_, rfl, x78, ?_⟩
          have S := S.add (o := slO _ _ _ _) x78 hOv149
          have B := bx Hb B x78
          refine t_on rfl rfl ?_
          refine t_callx Try.call43 rfl (laws_sameInts (pathInts ((pathOf l54).1)) l54 _ _ _ (S.sl) (S.tail.tail.tail.tail.tail.tail.tail.tail.rd) (by omega) (by omega)) ?_ rfl rfl
          intro w79 x80
          have B := bx Hb B x80
          have S := S.below x80
          refine t_on rfl rfl ?_
          refine t_not rfl ?_ rfl
          refine t_on rfl rfl ?_
          refine t_pickt rfl rfl ?_ rfl
          refine t_pickf rfl rfl ?_ rfl
          refine t_done' ?_
          refine x_seq ?_
          refine w_if rfl (fun h => (by exact absurd (second hm) h)) ?_
          intro hc154
          refine w_skip ?_
          have S := S.tail
          refine x_cut (X := Unit) (I := (fun u wq => Below w.heap.size w wq ∧ Sep w.heap.size wq [slO intT 3 v102 (pathInts p28), slO intT 3 v100 (pathInts p28), slO byteT 5 v68 (bs28 ++ pathEnc p28), bxO g17 30 #[u62_0], slO partT 71 u62_0 ((pathOf l54).1), bxO g15 30 #[u57_0], slO partT 71 u57_0 ((pathOf l54).1), rdO intT vb54 l54, bxO g11 30 #[u49_0], slO partT 71 u49_0 q0, bxO g8 30 #[u42_0], slO partT 71 u42_0 q0, rdO byteT vb36 bs36, slO byteT 5 v33 (bs28 ++ pathEnc p28), bxO g4 30 #[vp28], slO byteT 5 vb28 bs28, rdO partT vp28 p28])) (F := (fun u => [(4, .pointer (some ⟨g4, 0, none⟩)), (3, vb28), (5, v33)])) (()) ?_ ?_
          rotate_left
          · exact ⟨rfl, rfl, rfl, trivial⟩
          try dsimp only
          exact ⟨B, S⟩
        · intro hm
          refine t_off rfl rfl rfl ?_ rfl
          refine t_off rfl rfl rfl ?_ rfl
          refine t_off rfl rfl rfl ?_ rfl
          refine t_off rfl rfl rfl ?_ rfl
          refine t_off rfl rfl rfl ?_ rfl
          refine t_on rfl rfl ?_
          refine t_pickf rfl rfl ?_ rfl
          refine t_pickf rfl rfl ?_ rfl
          refine t_done' ?_
          refine x_seq ?_
          refine w_no rfl ?_
          refine w_skip ?_
          refine x_cut (X := Unit) (I := (fun u wq => Below w.heap.size w wq ∧ Sep w.heap.size wq [slO intT 3 v102 (pathInts p28), slO intT 3 v100 (pathInts p28), slO byteT 5 v68 (bs28 ++ pathEnc p28), bxO g17 30 #[u62_0], slO partT 71 u62_0 ((pathOf l54).1), bxO g15 30 #[u57_0], slO partT 71 u57_0 ((pathOf l54).1), rdO intT vb54 l54, bxO g11 30 #[u49_0], slO partT 71 u49_0 q0, bxO g8 30 #[u42_0], slO partT 71 u42_0 q0, rdO byteT vb36 bs36, slO byteT 5 v33 (bs28 ++ pathEnc p28), bxO g4 30 #[vp28], slO byteT 5 vb28 bs28, rdO partT vp28 p28])) (F := (fun u => [(4, .pointer (some ⟨g4, 0, none⟩)), (3, vb28), (5, v33)])) (()) ?_ ?_
          rotate_left
          · exact ⟨rfl, rfl, rfl, trivial⟩
          try dsimp only
          exact ⟨B, S⟩
    rintro u w81 hI
    try dsimp only at hI ⊢
    obtain ⟨B, S⟩ := hI
    refine w_seq ?_
    refine w_seq ?_
    refine w_region ?_
    refine t_bxn S.tail.tail.tail.tail.tail.tail.tail.tail.tail.tail.tail.tail.tail.tail.box ab_path sb_path rfl rfl ?_ rfl
    refine t_callx Try.call50 rfl (va1 (path_mkv (S.tail.tail.tail.tail.tail.tail.tail.tail.tail.tail.tail.tail.tail.tail.tail.tail.rd)) fun cs h => impl_EncodablePath p28 cs _ h (by omega) (by assumption) (by assumption)) ?_ rfl rfl
    intro w82 x83
    have B := bx Hb B x83
    have S := S.below x83
    refine t_notb rfl ?_ rfl
    refine t_done ?_
    refine x_seq ?_
    refine w_ifb rfl ?_ ?_
    · intro he
      refine w_seq ?_
      refine w_region ?_
      refine t_move rfl ?_ rfl
      refine t_move rfl ?_ rfl
      refine t_callx Try.call40 rfl (laws_same (bs28 ++ pathEnc p28) bs28 _ _ _ (S.tail.tail.tail.tail.tail.tail.tail.tail.tail.tail.tail.tail.tail.sl) (S.tail.tail.tail.tail.tail.tail.tail.tail.tail.tail.tail.tail.tail.tail.tail.sl) (by (try simp only [List.length_append, List.length_take]); omega) (by (try simp only [List.length_append, List.length_take]); omega)) ?_ rfl rfl
      intro w84 x85
      have B := bx Hb B x85
      have S := S.below x85
      refine t_assign rfl ?_ rfl
      refine t_done ?_
      refine x_seq ?_
      refine w_ret ?_
      refine x_then_ret ?_
      refine x_ret1 rfl rfl ?_
      exact ⟨ret_bool (decide_eq_true (by unfold pathEnc; rw [if_neg (by simpa using he), List.append_nil])), ext_trans X0 B⟩
    · intro he
      have he' : encPath p28 = true := by simpa using he
      have hrw := read_write he' bs28
      have hpo : pathOf (pathInts p28) = (p28, true) := by rw [pathOf_ints (encPath_len he'), if_pos he']
      have hpi := hP.ints
      refine w_skip ?_
      refine x_seq ?_
      refine w_seq ?_
      refine w_region ?_
      refine t_move rfl ?_ rfl
      refine t_move rfl ?_ rfl
      refine t_len e_byte (S.tail.tail.tail.tail.tail.tail.tail.tail.tail.tail.tail.tail.tail.tail.tail.sl) rfl rfl ?_ rfl
      refine t_call Try.call35 rfl (impl_ReadPath _ _ _ _ (S.tail.tail.tail.tail.tail.tail.tail.tail.tail.tail.tail.tail.tail.sl) (by rw [List.length_append]; omega) (by omega) hrw) ?_ rfl rfl
      rintro e w86 ⟨cs165, fp165, rfl, hO165, x87⟩
      refine ⟨_, rfl, x87, ?_⟩
      have S := S.add (o := tyO pathT _ _) x87 hO165
      have B := bx Hb B x87
      obtain ⟨u165_0, heq, S2⟩ := S.pathOpen
      subst heq
      have S := S2
      clear S2
      refine t_move rfl ?_ rfl
      refine t_extract rfl rfl ?_ rfl
      refine t_extract rfl rfl ?_ rfl
      refine t_extract rfl rfl ?_ rfl
      refine t_alloc S z_path rfl ?_ rfl rfl
      intro g19 w88 x89 S
      have B := bx Hb B x89
      refine t_stn S sb_path rfl rfl rfl rfl (by intro zz hu; have hu : zz ∈ ([u165_0] : List Value) := hu; simp only [List.mem_cons, List.not_mem_nil, or_false] at hu; rcases hu with rfl <;> first | rfl | exact (SlR.cells (by first | assumption | exact S.tail.sl | exact S.tail.tail.sl | exact S.tail.tail.tail.sl | exact S.tail.tail.tail.tail.sl | exact S.tail.tail.tail.tail.tail.sl | exact S.tail.tail.tail.tail.tail.tail.sl | exact S.tail.tail.tail.tail.tail.tail.tail.sl | exact S.tail.tail.tail.tail.tail.tail.tail.tail.sl | exact S.tail.tail.tail.tail.tail.tail.tail.tail.tail.sl | exact S.tail.tail.tail.tail.tail.tail.tail.tail.tail.tail.sl | exact S.tail.tail.tail.tail.tail.tail.tail.tail.tail.tail.tail.sl | exact S.tail.tail.tail.tail.tail.tail.tail.tail.tail.tail.tail.tail.sl | exact S.tail.tail.tail.tail.tail.tail.tail.tail.tail.tail.tail.tail.tail.sl)).2) ?_
      intro w90 b91 S
      have B := B.trans b91
      refine t_assign rfl ?_ rfl
      refine t_assign rfl ?_ rfl
      refine t_done ?_
      refine x_seq ?_
      refine w_seq ?_
      refine w_region ?_
      refine t_bxn S.tail.tail.tail.tail.tail.tail.tail.tail.tail.tail.tail.tail.tail.tail.tail.tail.box ab_path sb_path rfl rfl ?_ rfl
      refine t_call Try.call44 rfl (impl_PathInts _ _ _ (path_mkv (S.tail.tail.tail.tail.tail.tail.tail.tail.tail.tail.tail.tail.tail.tail.tail.tail.tail.tail.rd)) (by omega)) ?_ rfl rfl
      rintro e w92 ⟨v171, fpv171, rfl, hOv171, x93⟩
      refine ⟨_, rfl, x93, ?_⟩
      have S := S.add (o := slO _ _ _ _) x93 hOv171
      have B := bx Hb B x93
      refine t_call Try.call38 rfl ((by have hpf := impl_PathFromInts _ _ _ (S.sl) (by omega) hpi; rw [hpo] at hpf; exact hpf)) ?_ rfl rfl
      rintro e w94 ⟨cs172, fp172, rfl, hO172, x95⟩
      refine ⟨_, rfl, x95, ?_⟩
      have S := S.add (o := tyO pathT _ _) x95 hO172
      have B := bx Hb B x95
      obtain ⟨u172_0, heq, S2⟩ := S.pathOpen
      subst heq
      have S := S2
      clear S2
      refine t_move rfl ?_ rfl
      refine t_extract rfl rfl ?_ rfl
      refine t_extract rfl rfl ?_ rfl
      refine t_alloc S z_path rfl ?_ rfl rfl
      intro g22 w96 x97 S
      have B := bx Hb B x97
      refine t_stn S sb_path rfl rfl rfl rfl (by intro zz hu; have hu : zz ∈ ([u172_0] : List Value) := hu; simp only [List.mem_cons, List.not_mem_nil, or_false] at hu; rcases hu with rfl <;> first | rfl | exact (SlR.cells (by first | assumption | exact S.tail.sl | exact S.tail.tail.sl | exact S.tail.tail.tail.sl | exact S.tail.tail.tail.tail.sl | exact S.tail.tail.tail.tail.tail.sl | exact S.tail.tail.tail.tail.tail.tail.sl | exact S.tail.tail.tail.tail.tail.tail.tail.sl | exact S.tail.tail.tail.tail.tail.tail.tail.tail.sl | exact S.tail.tail.tail.tail.tail.tail.tail.tail.tail.sl | exact S.tail.tail.tail.tail.tail.tail.tail.tail.tail.tail.sl | exact S.tail.tail.tail.tail.tail.tail.tail.tail.tail.tail.tail.sl | exact S.tail.tail.tail.tail.tail.tail.tail.tail.tail.tail.tail.tail.sl | exact S.tail.tail.tail.tail.tail.tail.tail.tail.tail.tail.tail.tail.tail.sl)).2) ?_
      intro w98 b99 S
      have B := B.trans b99
      refine t_assign rfl ?_ rfl
      refine t_done ?_
      refine x_seq ?_
      refine w_seq ?_
      refine w_region ?_
      refine t_move rfl ?_ rfl
      refine t_move rfl ?_ rfl
      refine t_on rfl rfl ?_
      refine t_bxn S.tail.tail.tail.box ab_path sb_path rfl rfl ?_ rfl
      refine t_on rfl rfl ?_
      refine t_bxn S.tail.tail.tail.tail.tail.tail.tail.tail.tail.tail.tail.tail.tail.tail.tail.tail.tail.tail.tail.box ab_path sb_path rfl rfl ?_ rfl
      refine t_on rfl rfl ?_
      refine t_callx Try.call42 rfl (laws_samePath p28 p28 _ _ _ (path_mkv (S.tail.tail.tail.tail.sl)) (path_mkv (S.tail.tail.tail.tail.tail.tail.tail.tail.tail.tail.tail.tail.tail.tail.tail.tail.tail.tail.tail.tail.tail.rd)) (by omega) (by omega)) ?_ rfl rfl
      intro w100 x101
      have B := bx Hb B x101
      have S := S.below x101
      refine t_pickt rfl rfl ?_ rfl
      refine t_move rfl ?_ rfl
      refine t_partp (t := 181) rfl ?_ (fun h => absurd rfl h)
      intro _
      refine t_on rfl rfl ?_
      refine t_move rfl ?_ rfl
      refine t_on rfl rfl ?_
      refine t_move rfl ?_ rfl
      refine t_on rfl rfl ?_
      refine t_len e_byte (S.tail.tail.tail.tail.tail.tail.tail.tail.tail.tail.tail.tail.tail.tail.tail.tail.tail.tail.sl) rfl rfl ?_ rfl
      refine t_on rfl rfl ?_
      refine t_eql rfl rfl ?_ rfl
      refine t_pickt rfl rfl ?_ rfl
      refine t_move rfl ?_ rfl
      refine t_partp (t := 187) rfl ?_ (fun h => (by exact absurd (by rw [List.length_append]) h))
      intro hc187
      refine t_on rfl rfl ?_
      refine t_move rfl ?_ rfl
      refine t_pickt rfl rfl ?_ rfl
      refine t_move rfl ?_ rfl
      refine t_on rfl rfl ?_
      refine t_bxn S.box ab_path sb_path rfl rfl ?_ rfl
      refine t_on rfl rfl ?_
      refine t_bxn S.tail.tail.tail.tail.tail.tail.tail.tail.tail.tail.tail.tail.tail.tail.tail.tail.tail.tail.tail.box ab_path sb_path rfl rfl ?_ rfl
      refine t_on rfl rfl ?_
      refine t_callx Try.call42 rfl (laws_samePath p28 p28 _ _ _ (path_mkv (S.tail.sl)) (path_mkv (S.tail.tail.tail.tail.tail.tail.tail.tail.tail.tail.tail.tail.tail.tail.tail.tail.tail.tail.tail.tail.tail.rd)) (by omega) (by omega)) ?_ rfl rfl
      intro w102 x103
      have B := bx Hb B x103
      have S := S.below x103
      refine t_pickt rfl rfl ?_ rfl
      refine t_assign rfl ?_ rfl
      refine t_done ?_
      refine x_seq ?_
      refine w_ret ?_
      refine x_ret1 rfl rfl ?_
      exact ⟨ret_bool (decide_eq_true rfl), ext_trans X0 B⟩
namespace fnCarries
open Go.ChangeShapes Go.WideShapes Go.ChangeAt
set_option maxRecDepth 100000 in
theorem lifted (os : Os) (started : os.Started) (H : Type) (enc : TypeId × Value → H) :
    ReturnsInHanded {} Try.checked os 5 .any (Rows.fnCarriesSpec.pre6 enc Try.prog Try.f5 Rows.fnCarriesRow.domain false) (Rows.fnCarriesSpec.post enc Try.prog Try.f5 false true false false) := by
  refine returnsInHanded_of_change (C := Try.checked) knob started (by kernel_rfl) Try.func5
    (ChangeSpec.witness6 (enc := enc) (C := Try.checked) false ⟨#[], #[.slice none 0 0], []⟩ 8 (by kernel_rfl) (by kernel_rfl) (by kernel_rfl) (by kernel_rfl)) ?_
  intro W base args ds gs before hval0 hW hcnd _
  have hval : ∀ (j : Nat) t v, Try.f5.params[j]? = some t → args[j]? = some v → Value.okWide Try.prog W .any base t v := hval0
  have hW' := hW
  obtain ⟨p, q, hA0, hV, rfl, hfz, hnd⟩ := hW
  have hA : DataW.TrodAll enc Try.prog W 0 (fun _ => true) true Try.f5.params.toList args.toList ds p := hA0
  rw [Try.params5] at hA hval
  obtain ⟨v0, vs0, d0, ds0, p0, q0, hargs, rfl, rfl, h0, r0⟩ := trodAll_cons hA
  obtain ⟨rfl, rfl, rfl⟩ := trodAll_nil r0
  obtain rfl : args = #[v0] := by cases args; simp_all
  obtain ⟨rfl, rfl⟩ := trodVars_none hV
  have k0 := h0
  have lt0 : ∀ x ∈ p0, x.block < W.heap.size := by obtain ⟨m, hm⟩ := k0; exact DataW.trod_lt m _ _ _ hm
  obtain ⟨x0, R0, L0⟩ := open_byteS (hval 0 22 v0 rfl rfl) h0
  clear hA0 hval0
  refine (lawFnCarries x0 _ W R0 L0).mono fun e W' ⟨he, bel⟩ => ?_
  subst he
  exact ⟨_, rfl, _, _, _, [], _, [], hW', trodAll_mk1 (shut_bool Try.underlying4 _), (trodAll_cons_mk (Below.trod laidOut (by kernel_rfl) (of_decide_eq_true (by kernel_rfl)) k0 bel lt0) trodAll_mk0), rfl, bel.frame _, fun h => by cases h⟩
theorem jA : jnA Try.pinned.checked.prog Try.f5 Rows.fnCarriesSpec Rows.fnCarriesRow = true := by kernel_rfl
theorem jB : jnB Try.pinned.checked.prog 5 Rows.fnCarriesRow = true := by kernel_rfl
theorem jC : jnC Try.pinned.checked.prog Try.f5 Rows.fnCarriesSpec Rows.fnCarriesRow = true := by kernel_rfl
theorem jD : jnD Try.pinned.checked.prog = true := by kernel_rfl
theorem jE : jnE Try.pinned.checked.prog = true := by kernel_rfl
theorem jF : jnF Try.pinned.checked.prog Rows.fnCarriesRow = true := by kernel_rfl
theorem jG : jnG Try.pinned.checked.prog Rows.fnCarriesRow = true := by kernel_rfl
theorem jH : jnH Try.pinned.checked.prog Try.f5 Rows.fnCarriesRow = true := by kernel_rfl
theorem jI : jnI Rows.fnCarriesRow = true := by kernel_rfl
theorem jJ : jnJ Try.pinned.checked.prog Try.f5 Rows.fnCarriesSpec Rows.fnCarriesRow = true := by kernel_rfl
theorem over : Rows.fnCarriesRow.holds Try.pinned (OpenSpec.ofChange Rows.fnCarriesSpec) :=
  OpenClaim.holds_of_wide 5 Try.f5 rfl rfl rfl rfl rfl rfl rfl ⟨rfl, rfl, rfl, rfl, rfl⟩ rfl rfl rfl rfl rfl (by kernel_rfl) Try.func5 (joined_of jA jB jC jD jE jF jG jH jI jJ)
    (of_decide_eq_true (by kernel_rfl)) (by unfold Func.isWrapper; first | (rw [if_pos (by decide +kernel)]; kernel_rfl) | (rw [if_neg (by decide +kernel)]; exact ⟨rfl, rfl⟩))
    (fun os started H enc _ => lifted os started H enc)
theorem proved : Rows.FnCarriesSaid := over
#print axioms proved
end fnCarries
end Go.Proofs.Ytdaecknfahgddaa
