/- What LawFnPackets needs of the texts below it, part 2: contracts of functions, plain lemmas. (Put together by slim.py.) -/
import Derived.Test.YtdaecknfahgddaaGreatSLawFnPackets1
namespace Go.Proofs.YtdaecknfahgddaaGreat
set_option linter.unusedVariables false
theorem SepF.pull {b : Nat} {w : World} {o : Ow} {os : List Ow} : ∀ {l : List Ow} {fp : List Nat}, SepF b w (l ++ o :: os) fp → ∃ fp', SepF b w (o :: (l ++ os)) fp' ∧ ∀ x, x ∈ fp' → x ∈ fp
  | [], fp, h => ⟨fp, h, fun _ h => h⟩
  | o1 :: l, fp, h => by
    obtain ⟨f, g, rfl, h1, h2, h3⟩ := h
    obtain ⟨g', ⟨f2, g2, rfl, k1, k2, k3⟩, h5⟩ := SepF.pull (l := l) h2
    refine ⟨f2 ++ (f ++ g2), ⟨f2, f ++ g2, rfl, k1, ⟨f, g2, rfl, h1, k2, fun x hx hy => h3 x hx (h5 x (List.mem_append.2 (.inr hy)))⟩, ?_⟩, ?_⟩
    · intro x hx hy
      rcases List.mem_append.1 hy with hy | hy
      · exact h3 x hy (h5 x (List.mem_append.2 (.inl hx)))
      · exact k3 x hx hy
    · intro x hx
      simp only [List.mem_append] at hx ⊢
      rcases hx with hx | hx | hx
      · exact .inr (h5 x (List.mem_append.2 (.inl hx)))
      · exact .inl hx
      · exact .inr (h5 x (List.mem_append.2 (.inr hx)))
theorem Sep.pull {b : Nat} {w : World} {o : Ow} {os : List Ow} (l : List Ow) (h : Sep b w (l ++ o :: os)) : Sep b w (o :: (l ++ os)) := by
  obtain ⟨h1, fp, h2⟩ := h
  obtain ⟨fp', h3, _⟩ := h2.pull
  exact ⟨h1, fp', h3⟩
theorem Sep.f4 {b : Nat} {w : World} {o o0 o1 o2 o3 : Ow} {os : List Ow} (h : Sep b w (o0 :: o1 :: o2 :: o3 :: o :: os)) : Sep b w (o :: o0 :: o1 :: o2 :: o3 :: os) := Sep.pull [o0, o1, o2, o3] h
theorem Sep.f5 {b : Nat} {w : World} {o o0 o1 o2 o3 o4 : Ow} {os : List Ow} (h : Sep b w (o0 :: o1 :: o2 :: o3 :: o4 :: o :: os)) : Sep b w (o :: o0 :: o1 :: o2 :: o3 :: o4 :: os) := Sep.pull [o0, o1, o2, o3, o4] h
theorem Sep.f6 {b : Nat} {w : World} {o o0 o1 o2 o3 o4 o5 : Ow} {os : List Ow} (h : Sep b w (o0 :: o1 :: o2 :: o3 :: o4 :: o5 :: o :: os)) : Sep b w (o :: o0 :: o1 :: o2 :: o3 :: o4 :: o5 :: os) := Sep.pull [o0, o1, o2, o3, o4, o5] h
theorem Sep.f7 {b : Nat} {w : World} {o o0 o1 o2 o3 o4 o5 o6 : Ow} {os : List Ow} (h : Sep b w (o0 :: o1 :: o2 :: o3 :: o4 :: o5 :: o6 :: o :: os)) : Sep b w (o :: o0 :: o1 :: o2 :: o3 :: o4 :: o5 :: o6 :: os) := Sep.pull [o0, o1, o2, o3, o4, o5, o6] h
theorem Sep.f8 {b : Nat} {w : World} {o o0 o1 o2 o3 o4 o5 o6 o7 : Ow} {os : List Ow} (h : Sep b w (o0 :: o1 :: o2 :: o3 :: o4 :: o5 :: o6 :: o7 :: o :: os)) : Sep b w (o :: o0 :: o1 :: o2 :: o3 :: o4 :: o5 :: o6 :: o7 :: os) := Sep.pull [o0, o1, o2, o3, o4, o5, o6, o7] h
theorem Sep.f9 {b : Nat} {w : World} {o o0 o1 o2 o3 o4 o5 o6 o7 o8 : Ow} {os : List Ow} (h : Sep b w (o0 :: o1 :: o2 :: o3 :: o4 :: o5 :: o6 :: o7 :: o8 :: o :: os)) : Sep b w (o :: o0 :: o1 :: o2 :: o3 :: o4 :: o5 :: o6 :: o7 :: o8 :: os) := Sep.pull [o0, o1, o2, o3, o4, o5, o6, o7, o8] h
theorem Sep.f10 {b : Nat} {w : World} {o o0 o1 o2 o3 o4 o5 o6 o7 o8 o9 : Ow} {os : List Ow} (h : Sep b w (o0 :: o1 :: o2 :: o3 :: o4 :: o5 :: o6 :: o7 :: o8 :: o9 :: o :: os)) : Sep b w (o :: o0 :: o1 :: o2 :: o3 :: o4 :: o5 :: o6 :: o7 :: o8 :: o9 :: os) := Sep.pull [o0, o1, o2, o3, o4, o5, o6, o7, o8, o9] h
theorem Sep.f11 {b : Nat} {w : World} {o o0 o1 o2 o3 o4 o5 o6 o7 o8 o9 o10 : Ow} {os : List Ow} (h : Sep b w (o0 :: o1 :: o2 :: o3 :: o4 :: o5 :: o6 :: o7 :: o8 :: o9 :: o10 :: o :: os)) : Sep b w (o :: o0 :: o1 :: o2 :: o3 :: o4 :: o5 :: o6 :: o7 :: o8 :: o9 :: o10 :: os) := Sep.pull [o0, o1, o2, o3, o4, o5, o6, o7, o8, o9, o10] h
theorem Sep.f12 {b : Nat} {w : World} {o o0 o1 o2 o3 o4 o5 o6 o7 o8 o9 o10 o11 : Ow} {os : List Ow} (h : Sep b w (o0 :: o1 :: o2 :: o3 :: o4 :: o5 :: o6 :: o7 :: o8 :: o9 :: o10 :: o11 :: o :: os)) : Sep b w (o :: o0 :: o1 :: o2 :: o3 :: o4 :: o5 :: o6 :: o7 :: o8 :: o9 :: o10 :: o11 :: os) := Sep.pull [o0, o1, o2, o3, o4, o5, o6, o7, o8, o9, o10, o11] h
theorem Sep.f13 {b : Nat} {w : World} {o o0 o1 o2 o3 o4 o5 o6 o7 o8 o9 o10 o11 o12 : Ow} {os : List Ow} (h : Sep b w (o0 :: o1 :: o2 :: o3 :: o4 :: o5 :: o6 :: o7 :: o8 :: o9 :: o10 :: o11 :: o12 :: o :: os)) : Sep b w (o :: o0 :: o1 :: o2 :: o3 :: o4 :: o5 :: o6 :: o7 :: o8 :: o9 :: o10 :: o11 :: o12 :: os) := Sep.pull [o0, o1, o2, o3, o4, o5, o6, o7, o8, o9, o10, o11, o12] h
theorem Sep.f14 {b : Nat} {w : World} {o o0 o1 o2 o3 o4 o5 o6 o7 o8 o9 o10 o11 o12 o13 : Ow} {os : List Ow} (h : Sep b w (o0 :: o1 :: o2 :: o3 :: o4 :: o5 :: o6 :: o7 :: o8 :: o9 :: o10 :: o11 :: o12 :: o13 :: o :: os)) : Sep b w (o :: o0 :: o1 :: o2 :: o3 :: o4 :: o5 :: o6 :: o7 :: o8 :: o9 :: o10 :: o11 :: o12 :: o13 :: os) := Sep.pull [o0, o1, o2, o3, o4, o5, o6, o7, o8, o9, o10, o11, o12, o13] h
end Go.Proofs.YtdaecknfahgddaaGreat
namespace Go.Proofs.YtdaecknfahgddaaGreat
open Go.RowKit
set_option linter.unusedVariables false
/-- The cursor's box: the bytes, some place in them, some number. -/
def curO (v : Value) (n : Nat) (g : Nat) (t : TypeId) : Ow where
  P b w fp := fp = [g] ∧ b ≤ g ∧ ∃ i h : Int, 0 ≤ i ∧ i ≤ (n : Int) ∧ w.heap[g]? = some (.cells #[v, I i, I h] t (0, 0))
  lt := by
    rintro b w fp ⟨rfl, h2, i, h, _, _, h3⟩ x hx
    simp at hx
    subst hx
    exact ⟨h2, (Array.getElem?_eq_some_iff.1 h3).1⟩
  keep := by
    rintro b w w' fp ⟨h1, h2, i, h, h4, h5, h3⟩ k
    exact ⟨h1, h2, i, h, h4, h5, by rw [k _ (by rw [h1]; simp)]; exact h3⟩
  mono := by
    rintro b b' w fp hb ⟨h1, h2, h3⟩
    exact ⟨h1, by omega, h3⟩
section
variable {b : Nat} {w : World} {os : List Ow} {v : Value} {n g : Nat} {t : TypeId}
theorem Sep.curOpen (S : Sep b w (curO v n g t :: os)) : ∃ i h : Int, 0 ≤ i ∧ i ≤ (n : Int) ∧ Sep b w (bxO g t #[v, I i, I h] :: os) := by
  obtain ⟨fp, h1, h2, i, h, h4, h5, h3⟩ := S.head
  refine ⟨i, h, h4, h5, S.conv fun f hf => ?_⟩
  obtain ⟨k1, k2, _⟩ := hf
  exact ⟨k1, k2, h3⟩
theorem Sep.curShut {i h : Int} (S : Sep b w (bxO g t #[v, I i, I h] :: os)) (h0 : 0 ≤ i) (h1 : i ≤ (n : Int)) : Sep b w (curO v n g t :: os) :=
  S.conv fun f ⟨k1, k2, k3⟩ => ⟨k1, k2, i, h, h0, h1, k3⟩
end
theorem i64_and255 (n : Int) : bits .and .i64 n 255 = n % 256 := by
  have h255 : (BitVec.ofInt 64 255).toNat = 2 ^ 8 - 1 := by decide
  have key : (BitVec.ofInt 64 n &&& BitVec.ofInt 64 255).toNat = (n % ((2 ^ 64 : Nat) : Int)).toNat % 2 ^ 8 := by
    rw [BitVec.toNat_and, BitVec.toNat_ofInt, h255, Nat.and_two_pow_sub_one_eq_mod]
  show IntKind.i64.wrap ((BitVec.ofInt 64 n &&& BitVec.ofInt 64 255).toNat : Nat) = n % 256
  rw [key, IntKind.wrap_i64]
  omega
section
variable {P : Program} {n : Nat} {ops : Array Oper} {Q : Exit → Act → World → Prop} {L : Frm} {w : World} {m : Md} {r : IT} {d : Nat} {ty : TypeId} {pos : String} {af : Array Edge}
theorem t_and255 {x y : Operand} {t t' : TypeId} {a : Int} (hx : ev L x = some (I a)) (hy : ev L y = some (I 255)) (k : WT P n ops Q r ((d, I (a % 256)) :: L) w) (hn : Nat.blt d n = true) : WT P n ops Q (.st m ⟨some d, .binOp .and t x y t', ty, pos, af, none⟩ r) L w :=
  t_read (fun e ha _ _ _ w' _ => by simp [execOp, ha.ev hx, ha.ev hy, eqGuard, binOp, intBits_and, i64_and255]) k hn
theorem t_bitA {op : BinOp} (ho : op = .and ∨ op = .xor ∨ op = .or) {x y : Operand} {t t' : TypeId} {a b : Int} (hx : ev L x = some (I a)) (hy : ev L y = some (I b)) (k : ∀ z, WT P n ops Q r ((d, I z) :: L) w) (hn : Nat.blt d n = true) : WT P n ops Q (.st m ⟨some d, .binOp op t x y t', ty, pos, af, none⟩ r) L w := by
  rcases ho with rfl | rfl | rfl
  all_goals exact t_read (fun e ha _ _ _ w' _ => by simp [execOp, ha.ev hx, ha.ev hy, eqGuard, binOp, Op.intBits]; rfl) (k _) hn
theorem t_shrA {x y : Operand} {t t' : TypeId} {kd : IntKind} {a c : Int} (hx : ev L x = some (I a)) (hy : ev L y = some (.int kd c)) (hc : 0 ≤ c) (k : ∀ z, WT P n ops Q r ((d, I z) :: L) w) (hn : Nat.blt d n = true) : WT P n ops Q (.st m ⟨some d, .binOp .shr t x y t', ty, pos, af, none⟩ r) L w :=
  t_read (fun e ha _ _ _ w' _ => by simp [execOp, ha.ev hx, ha.ev hy, eqGuard, binOp, shift_shr_any .i64 kd a c hc]; rfl) (k _) hn
end
end Go.Proofs.YtdaecknfahgddaaGreat
namespace Go.Proofs.YtdaecknfahgddaaGreat
open Go.RowKit
set_option linter.unusedVariables false
set_option maxRecDepth 20000
def gI (l : List Int) (i : Nat) : Int := l[i]?.getD 0
theorem gI_eq {l : List Int} {i : Nat} {x : Int} (h : l[i]? = some x) : gI l i = x := by unfold gI; rw [h]; rfl
def hopAt (l : List Int) (i : Nat) : Hop := ⟨gI l i, gI l (i + 1), gI l (i + 2), gI l (i + 3), gI l (i + 4)⟩
def hopsAt (l : List Int) (i n : Nat) : List Hop := (List.range n).map fun j => hopAt l (i + 5 * j)
theorem hopsAt_succ (l : List Int) (i n : Nat) : hopsAt l i (n + 1) = hopsAt l i n ++ [hopAt l (i + 5 * n)] := by
  unfold hopsAt; rw [List.range_succ, List.map_append]; rfl
theorem hopsAt_len (l : List Int) (i n : Nat) : (hopsAt l i n).length = n := by unfold hopsAt; simp
def partAt (l : List Int) (i : Nat) : Part := ⟨gI l i, gI l (i + 1), gI l (i + 2), hopsAt l (i + 4) (gI l (i + 3)).toNat⟩
def okAt (l : List Int) (i : Nat) : Prop := i + 4 ≤ l.length ∧ (0 ≤ gI l (i + 3) ∧ gI l (i + 3) ≤ 8) ∧ i + 4 + 5 * (gI l (i + 3)).toNat ≤ l.length
instance (l : List Int) (i : Nat) : Decidable (okAt l i) := by unfold okAt; infer_instance
/-- The parts that the numbers from place i on spell. -/
def pfi (l : List Int) (i : Nat) (acc : Path) : Option Path := if h : i < l.length then (if okAt l i then pfi l (i + 4 + 5 * (gI l (i + 3)).toNat) (acc ++ [partAt l i]) else none) else some acc
termination_by l.length - i
decreasing_by omega
theorem pfi_done {l : List Int} {i : Nat} {acc : Path} (h : ¬ i < l.length) : pfi l i acc = some acc := by rw [pfi, dif_neg h]
theorem pfi_bad {l : List Int} {i : Nat} {acc : Path} (h : i < l.length) (hb : ¬ okAt l i) : pfi l i acc = none := by rw [pfi, dif_pos h, if_neg hb]
theorem pfi_step {l : List Int} {i : Nat} {acc : Path} (h : i < l.length) (hb : okAt l i) : pfi l i acc = pfi l (i + 4 + 5 * (gI l (i + 3)).toNat) (acc ++ [partAt l i]) := by rw [pfi, dif_pos h, if_pos hb]
def pathOf (l : List Int) : Path × Bool := match pfi l 0 [] with
  | none => ([], false)
  | some p => if encPath p then (p, true) else ([], false)
theorem pathOf_bad {l : List Int} (h : pfi l 0 [] = none) : pathOf l = ([], false) := by unfold pathOf; rw [h]
theorem pathOf_no {l : List Int} {p : Path} (h : pfi l 0 [] = some p) (he : encPath p = false) : pathOf l = ([], false) := by unfold pathOf; rw [h]; simp [he]
theorem pathOf_yes {l : List Int} {p : Path} (h : pfi l 0 [] = some p) (he : encPath p = true) : pathOf l = (p, true) := by unfold pathOf; rw [h]; simp [he]
theorem gI_in {l : List Int} (h : ∀ x ∈ l, In64 x) (i : Nat) : In64 (gI l i) := by
  unfold gI
  cases hx : l[i]? with
  | none => exact ⟨by decide, by decide⟩
  | some x => exact h x (List.mem_of_getElem? hx)
theorem partAt_rng {l : List Int} (h : ∀ x ∈ l, In64 x) (i : Nat) : rng_part (partAt l i) := by
  refine ⟨gI_in h _, gI_in h _, gI_in h _, fun x hx => ?_⟩
  obtain ⟨j, _, rfl⟩ := List.mem_map.1 hx
  exact ⟨gI_in h _, gI_in h _, gI_in h _, gI_in h _, gI_in h _⟩
theorem sz_snoc (p : Path) (x : Part) : sz_path (p ++ [x]) = sz_path p + 1 + x.hops.length := by
  show List.length (p ++ [x]) + _ = List.length p + _ + 1 + _
  simp [sz_part]; omega
theorem lenOk_sz {p : Path} (h : sz_path p ≤ 1048576) : lenOk_path p := by
  have h' : List.length p + (p.map sz_part).sum ≤ 1048576 := h
  refine ⟨by show List.length p ≤ _; omega, fun x hx => ?_⟩
  have := mem_len_path hx
  show x.hops.length ≤ _
  omega
theorem encPath_sz {p : Path} (h : encPath p = true) : sz_path p ≤ 27 := by
  unfold encPath at h
  rw [Bool.and_eq_true, List.all_eq_true, decide_eq_true_eq] at h
  show List.length p + (p.map sz_part).sum ≤ 27
  have h8 : ∀ x ∈ p, sz_part x ≤ 8 := fun x hx => by
    have := h.2 x hx
    unfold encPart encHops at this
    simp only [Bool.and_eq_true, decide_eq_true_eq] at this
    exact this.2.2.1
  have h3 : List.length p ≤ 3 := h.1
  have : ∀ q : List Part, (∀ x ∈ q, sz_part x ≤ 8) → (q.map sz_part).sum ≤ 8 * q.length := by
    intro q
    induction q with
    | nil => simp
    | cons a t ih =>
      intro hq
      have h1 := hq a (by simp)
      have h2 := ih fun x hx => hq x (by simp [hx])
      simp only [List.map_cons, List.sum_cons, List.length_cons]
      omega
  have := this p h8
  have e : List.length p = p.length := rfl
  omega
theorem spec_PathFromInts (l : List Int) (v : Value) (w : World) (h : SlR intT w v l) (hz : l.length ≤ 1048576) (hg : ∀ x ∈ l, In64 x) : Calls Tryz.prog 143 #[v] w fun e w' => ∃ cs fp, e = .returned (.tuple #[.agg cs.toArray, .bool (pathOf l).2]) ∧ pathT.O w.heap.size w' cs (pathOf l).1 fp ∧ Below w.heap.size w w' := by
 have X0 := Below.refl w.heap.size w
 refine enter Tryz.func143 rfl Tryz.ntmps143 rfl ?_
 refine w_s ?_
 refine w_g ?_
 have S := Sep.nil w
 have B := Below.refl w.heap.size w
 have Hb := Nat.le_refl w.heap.size
 refine t_w S z_path rfl ?_ rfl rfl
 intro g2 w1 x2 S
 have B := bx Hb B x2
 refine t_a rfl ?_ rfl
 refine t_d ?_
 refine x_s ?_
 refine w_s ?_
 refine w_g ?_
 refine t_g (fun w => b_path0 w) rfl ?_ rfl
 refine t_w S z_path rfl ?_ rfl rfl
 intro g4 w3 x4 S
 have B := bx Hb B x4
 refine t_stn S sb_path rfl rfl rfl rfl (by simp [Value.oneCell']) ?_
 intro w5 b6 S
 have B := B.trans b6
 refine t_d ?_
 refine x_s ?_
 refine w_s ?_
 refine w_g ?_
 refine t_a rfl ?_ rfl
 refine t_d ?_
 refine x_s ?_
 refine w_s ?_
 refine w_block ?_
 refine w_loop (X := Nat × Path × Value) (fun x wq => (fun i acc q => i ≤ l.length ∧ pfi l i acc = pfi l 0 [] ∧ sz_path acc ≤ i ∧ rng_path acc ∧ Below w.heap.size w wq ∧ Sep w.heap.size wq [bxO g4 30 #[q], slO partT 82 q acc, bxO g2 30 #[.slice none 0 0]]) x.1 x.2.1 x.2.2) (fun x => (fun i acc q => [(5, I ((i : Int))), (0, v), (2, .pointer (some ⟨g2, 0, none⟩)), (4, .pointer (some ⟨g4, 0, none⟩))]) x.1 x.2.1 x.2.2) (fun x => (fun i acc q => l.length - i) x.1 x.2.1 x.2.2) (0, [], .slice none 0 0) ?_ ⟨rfl, rfl, rfl, rfl, trivial⟩ ?_
 ·exact ⟨by omega, rfl, Nat.le_refl _, (fun x hx => by cases hx), B, S.addNil.f1⟩
 ·rintro ⟨i, acc, q⟩ w7 hI
  try dsimp only at hI ⊢
  obtain ⟨hi, hp, hsz, hrg, B, S⟩ := hI
  iterate 2 refine w_s ?_
  refine w_g ?_
  iterate 2 refine t_m rfl ?_ rfl
  refine t_len e_int ‹_› rfl rfl ?_ rfl
  refine t_lss rfl rfl ?_ rfl
  refine t_d ?_
  refine x_s ?_
  refine w_if rfl ?_ ?_
  ·intro hlt
   have hlt' : i < l.length := by omega
   refine w_k ?_
   refine x_s ?_
   refine w_block ?_
   iterate 2 refine w_s ?_
   refine w_g ?_
   refine t_m rfl ?_ rfl
   refine t_len e_int ‹_› rfl rfl ?_ rfl
   refine t_m rfl ?_ rfl
   refine t_sub rfl rfl (by omega) ?_ rfl
   refine t_lss rfl rfl ?_ rfl
   refine t_m rfl ?_ rfl
   refine t_partp (t := 19) rfl ?_ ?_
   ·intro h1
    iterate 7 refine t_off rfl rfl rfl ?_ rfl
    refine t_q rfl rfl ?_ rfl
    refine t_m rfl ?_ rfl
    iterate 12 refine t_off rfl rfl rfl ?_ rfl
    refine t_q rfl rfl ?_ rfl
    refine t_d ?_
    refine x_s ?_
    refine w_yes rfl ?_
    refine w_s ?_
    refine w_g ?_
    refine t_g (fun w => b_path0 w) rfl ?_ rfl
    have S := S.f2
    refine t_stn S sb_path rfl rfl rfl rfl (by simp [Value.oneCell']) ?_
    intro w8 b9 S
    have B := B.trans b9
    refine t_a rfl ?_ rfl
    refine t_d ?_
    refine x_s ?_
    refine w_r ?_
    refine x_t ?_
    refine x_block_ret ?_
    refine x_t ?_
    refine x_block_ret ?_
    refine x_t ?_
    refine x_retct rfl rfl S.box ab_path sb_path rfl rfl ?_
    have hbad := pathOf_bad (hp.symm.trans (pfi_bad hlt' (fun hk => by have := hk.1; omega)))
    obtain ⟨fp, hO⟩ := ((S.addNil (T := partT) (e := 82)).pathShut (x := [])).head
    exact ⟨_, fp, by rw [hbad], by rw [hbad]; exact pathT.mono _ _ _ _ _ _ X0.size hO, ext_trans X0 B⟩
   intro h1
   refine t_on rfl rfl ?_
   refine t_m rfl ?_ rfl
   refine t_on rfl rfl ?_
   refine t_m rfl ?_ rfl
   refine t_on rfl rfl ?_
   refine t_add rfl rfl (by omega) ?_ rfl
   refine t_on rfl rfl ?_
   obtain ⟨e23, he23⟩ : ∃ e, (l)[(i + 3)]? = some e := getx (by omega)
   refine t_idx e_int (k := (i + 3)) ‹_› he23 B rfl rfl (by first | rfl | omega) ?_ rfl
   intro p23 hp23
   refine t_on rfl rfl ?_
   refine t_ldi ‹_› ab_int B rfl ?_ rfl
   refine t_on rfl rfl ?_
   refine t_calls Tryz.call64 rfl (spec_l1In _ _ _ _) ?_ rfl rfl
   refine t_on rfl rfl ?_
   refine t_notb rfl ?_ rfl
   refine t_p rfl rfl ?_ rfl
   refine t_m rfl ?_ rfl
   have hgn := gI_eq he23
   refine t_part (t := 28) rfl ?_ ?_
   ·intro h2
    iterate 12 refine t_off rfl rfl rfl ?_ rfl
    refine t_q rfl rfl ?_ rfl
    refine t_d ?_
    refine x_s ?_
    refine w_yes rfl ?_
    refine w_s ?_
    refine w_g ?_
    refine t_g (fun w => b_path0 w) rfl ?_ rfl
    have S := S.f2
    refine t_stn S sb_path rfl rfl rfl rfl (by simp [Value.oneCell']) ?_
    intro w10 b11 S
    have B := B.trans b11
    refine t_a rfl ?_ rfl
    refine t_d ?_
    refine x_s ?_
    refine w_r ?_
    refine x_t ?_
    refine x_block_ret ?_
    refine x_t ?_
    refine x_block_ret ?_
    refine x_t ?_
    refine x_retct rfl rfl S.box ab_path sb_path rfl rfl ?_
    have h2' : inR e23 0 8 = false := by simpa using h2
    have hbad := pathOf_bad (hp.symm.trans (pfi_bad hlt' (fun hk => by have := hk.2.1; rw [hgn] at this; rw [inR_iff.2 this] at h2'; cases h2')))
    obtain ⟨fp, hO⟩ := ((S.addNil (T := partT) (e := 82)).pathShut (x := [])).head
    exact ⟨_, fp, by rw [hbad], by rw [hbad]; exact pathT.mono _ _ _ _ _ _ X0.size hO, ext_trans X0 B⟩
   intro h2
   have r2 : 0 ≤ e23 ∧ e23 ≤ 8 := inR_iff.1 (by simpa using h2)
   refine t_on rfl rfl ?_
   refine t_m rfl ?_ rfl
   refine t_on rfl rfl ?_
   refine t_len e_int ‹_› rfl rfl ?_ rfl
   refine t_on rfl rfl ?_
   refine t_m rfl ?_ rfl
   refine t_on rfl rfl ?_
   refine t_sub rfl rfl (by omega) ?_ rfl
   refine t_on rfl rfl ?_
   refine t_sub rfl rfl (by omega) ?_ rfl
   refine t_on rfl rfl ?_
   refine t_m rfl ?_ rfl
   refine t_on rfl rfl ?_
   refine t_m rfl ?_ rfl
   refine t_on rfl rfl ?_
   refine t_add rfl rfl (by omega) ?_ rfl
   refine t_on rfl rfl ?_
   refine t_idx e_int (k := (i + 3)) ‹_› he23 B rfl rfl (by first | rfl | omega) ?_ rfl
   intro p37 hp37
   refine t_on rfl rfl ?_
   refine t_ldi ‹_› ab_int B rfl ?_ rfl
   refine t_on rfl rfl ?_
   refine t_mul rfl rfl (by omega) ?_ rfl
   refine t_on rfl rfl ?_
   refine t_lss rfl rfl ?_ rfl
   refine t_p rfl rfl ?_ rfl
   refine t_d ?_
   refine x_s ?_
   refine w_if rfl ?_ ?_
   ·intro h3
    refine w_s ?_
    refine w_g ?_
    refine t_g (fun w => b_path0 w) rfl ?_ rfl
    have S := S.f2
    refine t_stn S sb_path rfl rfl rfl rfl (by simp [Value.oneCell']) ?_
    intro w12 b13 S
    have B := B.trans b13
    refine t_a rfl ?_ rfl
    refine t_d ?_
    refine x_s ?_
    refine w_r ?_
    refine x_t ?_
    refine x_block_ret ?_
    refine x_t ?_
    refine x_block_ret ?_
    refine x_t ?_
    refine x_retct rfl rfl S.box ab_path sb_path rfl rfl ?_
    have hbad := pathOf_bad (hp.symm.trans (pfi_bad hlt' (fun hk => by have := hk.2.2; rw [hgn] at this; omega)))
    obtain ⟨fp, hO⟩ := ((S.addNil (T := partT) (e := 82)).pathShut (x := [])).head
    exact ⟨_, fp, by rw [hbad], by rw [hbad]; exact pathT.mono _ _ _ _ _ _ X0.size hO, ext_trans X0 B⟩
   intro h3
   have hok : okAt l i := ⟨by omega, by rw [hgn]; exact r2, by rw [hgn]; omega⟩
   have hst := pfi_step (acc := acc) hlt' hok
   rw [hgn] at hst
   obtain ⟨n, hn⟩ : ∃ n : Nat, e23 = n := ⟨e23.toNat, by omega⟩
   refine w_k ?_
   refine x_s ?_
   refine w_s ?_
   refine w_draw (.st .take 0 (.st .take 1 (.st .take 2 (.st .take 3 (.st .take 4 (.st .take 5 (.st .take 6 (.st .take 7 (.st .take 8 (.st .take 9 (.st .take 10 (.st .take 11 (.st .take 12 (.st .take 13 (.st .take 14 (.st .run 15 (.st .fin 16 .done))))))))))))))))) mixed (by kernel_rfl) ?_
   intro w14 x15
   have B := bx Hb B x15
   have S := S.below x15
   iterate 2 refine t_m rfl ?_ rfl
   obtain ⟨e45, he45⟩ : ∃ e, (l)[i]? = some e := getx (by omega)
   refine t_idx e_int (k := i) ‹_› he45 B rfl rfl (by first | rfl | omega) ?_ rfl
   intro p45 hp45
   refine t_ldi ‹_› ab_int B rfl ?_ rfl
   iterate 2 refine t_m rfl ?_ rfl
   refine t_add rfl rfl (by omega) ?_ rfl
   obtain ⟨e50, he50⟩ : ∃ e, (l)[(i + 1)]? = some e := getx (by omega)
   refine t_idx e_int (k := (i + 1)) ‹_› he50 B rfl rfl (by first | rfl | omega) ?_ rfl
   intro p50 hp50
   refine t_ldi ‹_› ab_int B rfl ?_ rfl
   iterate 2 refine t_m rfl ?_ rfl
   refine t_add rfl rfl (by omega) ?_ rfl
   obtain ⟨e55, he55⟩ : ∃ e, (l)[(i + 2)]? = some e := getx (by omega)
   refine t_idx e_int (k := (i + 2)) ‹_› he55 B rfl rfl (by first | rfl | omega) ?_ rfl
   intro p55 hp55
   refine t_ldi ‹_› ab_int B rfl ?_ rfl
   refine t_g (fun w => b_part3 _ _ _ w) rfl ?_ rfl
   refine t_w S z_part rfl ?_ rfl rfl
   intro g6 w16 x17 S
   have B := bx Hb B x17
   refine t_stn S sb_part rfl rfl rfl rfl (by simp [Value.oneCell']) ?_
   intro w18 b19 S
   have B := B.trans b19
   refine t_d' ?_
   refine x_s ?_
   refine w_s ?_
   refine w_g ?_
   iterate 2 refine t_m rfl ?_ rfl
   refine t_add rfl rfl (by omega) ?_ rfl
   refine t_idx e_int (k := (i + 3)) ‹_› he23 B rfl rfl (by first | rfl | omega) ?_ rfl
   intro p61 hp61
   refine t_ldi ‹_› ab_int B rfl ?_ rfl
   refine t_a rfl ?_ rfl
   refine t_d ?_
   refine x_s ?_
   refine w_s ?_
   refine w_g ?_
   refine t_m rfl ?_ rfl
   refine t_add rfl rfl (by omega) ?_ rfl
   refine t_a rfl ?_ rfl
   refine t_d ?_
   refine x_s ?_
   iterate 2 refine w_s ?_
   refine w_g ?_
   refine t_a rfl ?_ rfl
   refine t_d ?_
   refine x_s ?_
   refine w_block ?_
   refine w_loop (X := Nat × Nat × Value) (fun x wq => (fun k j u => k ≤ n ∧ j = i + 4 + 5 * k ∧ Below w.heap.size w wq ∧ Sep w.heap.size wq [bxO g6 82 #[I e45, I e50, I e55, u], slO hopT 86 u (hopsAt l (i + 4) k), bxO g4 30 #[q], slO partT 82 q acc, bxO g2 30 #[.slice none 0 0]]) x.1 x.2.1 x.2.2) (fun x => (fun k j u => [(8, I ((k : Int))), (5, I ((j : Int))), (0, v), (2, .pointer (some ⟨g2, 0, none⟩)), (4, .pointer (some ⟨g4, 0, none⟩)), (6, .pointer (some ⟨g6, 0, none⟩)), (7, I e23)]) x.1 x.2.1 x.2.2) (fun x => (fun k j u => n - k) x.1 x.2.1 x.2.2) (0, i + 4, .slice none 0 0) ?_ ⟨rfl, rfl, rfl, rfl, rfl, rfl, rfl, trivial⟩ ?_
   ·exact ⟨by omega, by show i + 4 = i + 4 + 5 * 0; omega, B, S.addNil.f1⟩
   ·rintro ⟨k, j, u⟩ w20 hI
    try dsimp only at hI ⊢
    obtain ⟨hk, hj, B, S⟩ := hI
    have hhl := hopsAt_len l (i + 4) k
    iterate 2 refine w_s ?_
    refine w_g ?_
    iterate 2 refine t_m rfl ?_ rfl
    refine t_lss rfl rfl ?_ rfl
    refine t_d ?_
    refine x_s ?_
    refine w_if rfl ?_ ?_
    ·intro hlt2
     refine w_k ?_
     refine x_s ?_
     refine w_s ?_
     refine w_block ?_
     refine w_s ?_
     refine w_draw (.st .take 0 (.st .take 1 (.st .take 2 (.st .take 3 (.st .take 4 (.st .take 5 (.st .take 6 (.st .take 7 (.st .take 8 (.st .take 9 (.st .take 10 (.st .take 11 (.st .take 12 (.st .take 13 (.st .take 14 (.st .take 15 (.st .take 16 (.st .take 17 (.st .take 18 (.st .take 19 (.st .take 20 (.st .take 21 (.st .take 22 (.st .take 23 (.st .take 24 (.st .take 25 (.st .take 26 (.st .run 27 (.st .fin 28 (.st .fin 29 (.st .fin 30 .done))))))))))))))))))))))))))))))) mixed (by kernel_rfl) ?_
     intro w21 x22
     have B := bx Hb B x22
     have S := S.below x22
     refine t_y fb_part_3 rfl rfl ?_ rfl
     refine t_bx1 S.box ab_s_hop rfl rfl ?_ rfl
     iterate 2 refine t_m rfl ?_ rfl
     obtain ⟨e74, he74⟩ : ∃ e, (l)[j]? = some e := getx (by omega)
     refine t_idx e_int (k := j) ‹_› he74 B rfl rfl (by first | rfl | omega) ?_ rfl
     intro p74 hp74
     refine t_ldi ‹_› ab_int B rfl ?_ rfl
     iterate 2 refine t_m rfl ?_ rfl
     refine t_add rfl rfl (by omega) ?_ rfl
     obtain ⟨e79, he79⟩ : ∃ e, (l)[(j + 1)]? = some e := getx (by omega)
     refine t_idx e_int (k := (j + 1)) ‹_› he79 B rfl rfl (by first | rfl | omega) ?_ rfl
     intro p79 hp79
     refine t_ldi ‹_› ab_int B rfl ?_ rfl
     iterate 2 refine t_m rfl ?_ rfl
     refine t_add rfl rfl (by omega) ?_ rfl
     obtain ⟨e84, he84⟩ : ∃ e, (l)[(j + 2)]? = some e := getx (by omega)
     refine t_idx e_int (k := (j + 2)) ‹_› he84 B rfl rfl (by first | rfl | omega) ?_ rfl
     intro p84 hp84
     refine t_ldi ‹_› ab_int B rfl ?_ rfl
     iterate 2 refine t_m rfl ?_ rfl
     refine t_add rfl rfl (by omega) ?_ rfl
     obtain ⟨e89, he89⟩ : ∃ e, (l)[(j + 3)]? = some e := getx (by omega)
     refine t_idx e_int (k := (j + 3)) ‹_› he89 B rfl rfl (by first | rfl | omega) ?_ rfl
     intro p89 hp89
     refine t_ldi ‹_› ab_int B rfl ?_ rfl
     iterate 2 refine t_m rfl ?_ rfl
     refine t_add rfl rfl (by omega) ?_ rfl
     obtain ⟨e94, he94⟩ : ∃ e, (l)[(j + 4)]? = some e := getx (by omega)
     refine t_idx e_int (k := (j + 4)) ‹_› he94 B rfl rfl (by first | rfl | omega) ?_ rfl
     intro p94 hp94
     refine t_ldi ‹_› ab_int B rfl ?_ rfl
     refine t_g (fun w => b_hop _ _ _ _ _ w) rfl ?_ rfl
     refine t_lit (T := hopT) (l := [(⟨e74, e79, e84, e89, e94⟩ : Hop)]) (css := [[I e74, I e79, I e84, I e89, I e94]]) hop_flat S (fun w => bs_hop1 _ _ _ _ _ w) rfl rfl rfl rfl (by simp [maxLen]) (litR_one fun _ => rfl) ?_ rfl rfl
     intro u97 w23 x24 S
     have B := bx Hb B x24
     have hR := S.sl
     have S := S.f2
     refine t_cat hop_flat e_hop S hR rfl rfl rfl (by first | omega | (simp [-List.length_flatMap]; omega)) (by (simp [maxLen, -List.length_flatMap]; try omega)) ?_ rfl
     intro v98 w25 x26 S
     have B := B.trans x26
     clear hR
     have S := S.f1.tail
     refine t_y fb_part_3 rfl rfl ?_ rfl
     obtain ⟨Av98, cv98, rfl, _⟩ := S.sl.form
     have S := S.f1
     refine t_st1 S sb_s_hop rfl rfl rfl rfl rfl ?_
     intro w27 b28 S
     have B := B.trans b28
     refine t_d' ?_
     refine x_s ?_
     refine w_g ?_
     refine t_m rfl ?_ rfl
     refine t_add rfl rfl (by omega) ?_ rfl
     refine t_a rfl ?_ rfl
     refine t_d ?_
     refine x_b ?_
     refine x_s ?_
     refine w_g ?_
     refine t_m rfl ?_ rfl
     refine t_add rfl rfl (by omega) ?_ rfl
     refine t_a rfl ?_ rfl
     refine t_d ?_
     refine x_r (X := Nat × Nat × Value) (k + 1, j + 5, .slice Av98 (((hopsAt l (i + 4) k)) ++ ([(⟨e74, e79, e84, e89, e94⟩ : Hop)])).length cv98) ?_ (by exact ⟨rfl, rfl, rfl, rfl, rfl, rfl, rfl, trivial⟩) (by (try dsimp only); omega)
     try dsimp only
     refine ⟨by omega, by omega, B, ?_⟩
     have hh : hopAt l (i + 4 + 5 * k) = ⟨e74, e79, e84, e89, e94⟩ := by
      rw [← hj, hopAt, gI_eq he74, gI_eq he79, gI_eq he84, gI_eq he89, gI_eq he94]
     rw [hopsAt_succ, hh]
     exact S
    ·intro hge2
     have : k = n := by omega
     subst this
     have hal : List.length acc ≤ sz_path acc := by show List.length acc ≤ List.length acc + _; omega
     have hpA : partAt l i = ⟨e45, e50, e55, hopsAt l (i + 4) k⟩ := by
      rw [partAt, gI_eq he45, gI_eq he50, gI_eq he55, hgn, hn]; rfl
     refine w_exit ?_
     iterate 2 refine x_then_exit ?_
     refine x_block_exit ?_
     refine x_s ?_
     refine w_g ?_
     refine t_y fb_path_0 rfl rfl ?_ rfl
     refine t_bx1 S.tail.tail.box ab_s_part rfl rfl ?_ rfl
     refine t_b S.box ab_part sb_part rfl rfl ?_ rfl
     refine t_lit1 (fun w => bs_part1 _ _ _ _ w) rfl ?_ rfl rfl
     intro A105 w29 x30 hA105
     have B := bx Hb B x30
     have S := S.below x30
     have S := S.f1
     have S := S.partShut (x := (⟨e45, e50, e55, (hopsAt l (i + 4) k)⟩ : Part))
     have S := S.f3
     refine t_snoc e_part S hA105 rfl rfl rfl (by first | omega | (simp; done) | (simp; omega)) (by (simp only [maxLen]); first | omega | (simp; done) | (simp; omega)) ?_ rfl
     intro v106 w31 x32 S
     have B := B.trans x32
     refine t_y fb_path_0 rfl rfl ?_ rfl
     obtain ⟨Av106, cv106, rfl, _⟩ := S.sl.form
     have S := S.f2
     refine t_st1 S sb_s_part rfl rfl rfl rfl rfl ?_
     intro w33 b34 S
     have B := B.trans b34
     refine t_d ?_
     refine x_b ?_
     have S := S.f2.tail
     refine x_r (X := Nat × Path × Value) (j, acc ++ [⟨e45, e50, e55, hopsAt l (i + 4) k⟩], .slice Av106 (acc ++ [(⟨e45, e50, e55, (hopsAt l (i + 4) k)⟩ : Part)]).length cv106) ?_ (by exact ⟨rfl, rfl, rfl, rfl, trivial⟩) (by (try dsimp only); omega)
     try dsimp only
     have hj2 : i + 4 + 5 * e23.toNat = j := by omega
     rw [hpA, hj2] at hst
     refine ⟨by omega, by rw [← hst]; exact hp, by rw [sz_snoc]; show sz_path acc + 1 + (hopsAt l (i + 4) k).length ≤ j; omega, ?_, B, S⟩
     intro x hx
     rcases List.mem_append.1 hx with hx | hx
     ·exact hrg x hx
     ·rw [List.mem_singleton] at hx
      rw [hx, ← hpA]
      exact partAt_rng hg i
  ·intro hge
   have hend := hp.symm.trans (pfi_done (by omega))
   have hok2 := lenOk_sz (p := acc) (by omega)
   refine w_exit ?_
   iterate 2 refine x_then_exit ?_
   refine x_block_exit ?_
   refine x_s ?_
   iterate 2 refine w_s ?_
   refine w_g ?_
   refine t_b S.box ab_path sb_path rfl rfl ?_ rfl
   refine t_x Tryz.call107 rfl (va1 (path_mkv (S.tail.sl)) fun cs h => spec_EncodablePath _ cs _ h (by omega) ‹_› ‹_›) ?_ rfl rfl
   intro w35 x36
   have B := bx Hb B x36
   have S := S.below x36
   refine t_notb rfl ?_ rfl
   refine t_d ?_
   refine x_s ?_
   refine w_ifb rfl ?_ ?_
   ·intro h4
    refine w_s ?_
    refine w_g ?_
    refine t_g (fun w => b_path0 w) rfl ?_ rfl
    have S := S.f2
    refine t_stn S sb_path rfl rfl rfl rfl (by simp [Value.oneCell']) ?_
    intro w37 b38 S
    have B := B.trans b38
    refine t_a rfl ?_ rfl
    refine t_d ?_
    refine x_s ?_
    refine w_r ?_
    refine x_t ?_
    refine x_retct rfl rfl S.box ab_path sb_path rfl rfl ?_
    have hbad := pathOf_no hend (by simpa using h4)
    obtain ⟨fp, hO⟩ := ((S.addNil (T := partT) (e := 82)).pathShut (x := [])).head
    exact ⟨_, fp, by rw [hbad], by rw [hbad]; exact pathT.mono _ _ _ _ _ _ X0.size hO, ext_trans X0 B⟩
   ·intro h4
    refine w_k ?_
    refine x_s ?_
    refine w_s ?_
    refine w_g ?_
    refine t_b S.box ab_path sb_path rfl rfl ?_ rfl
    have S := S.f2
    refine t_stn S sb_path rfl rfl rfl rfl (by repeat first | exact oc0 | refine oc rfl ?_ | refine oc (SlR.cells (by have z := S; repeat first | assumption | exact z.sl | replace z := z.tail)).2 ?_) ?_
    intro w39 b40 S
    have B := B.trans b40
    refine t_a rfl ?_ rfl
    refine t_d ?_
    refine x_s ?_
    refine w_r ?_
    refine x_retct rfl rfl S.box ab_path sb_path rfl rfl ?_
    have hyes := pathOf_yes hend (by simpa using h4)
    obtain ⟨fp, hO⟩ := (S.f2.pathShut).head
    exact ⟨_, fp, by rw [hyes], by rw [hyes]; exact pathT.mono _ _ _ _ _ _ X0.size hO, ext_trans X0 B⟩
end Go.Proofs.YtdaecknfahgddaaGreat
namespace Go.Proofs.YtdaecknfahgddaaGreat
open Go.RowKit
set_option linter.unusedVariables false
set_option maxRecDepth 20000
/-- A number's bytes from place i on: place k of it is at hand, n is so far. -/
def rvK (b : List UInt8) : Nat → Nat → Int → Nat → Option (Int × Nat)
  | 0, _, _, _ => none
  | f + 1, k, n, i => match b[i]? with
    | none => none
    | some x => if x.toNat < 128 then (if (x.toNat = 0 ∧ 0 < k) ∨ 1000000000000 < n + (x.toNat : Int) % 128 * 128 ^ k then none else some (n + (x.toNat : Int) % 128 * 128 ^ k, i + 1)) else rvK b f (k + 1) (n + (x.toNat : Int) % 128 * 128 ^ k) (i + 1)
def readV (b : List UInt8) (i : Nat) : Option (Int × Nat) := rvK b 6 0 0 i
/-- What a reader of numbers hands back. -/
def rv3 : Option (Int × Nat) → Int × Int × Bool
  | none => (0, 0, false)
  | some (n, i) => (n, i, true)
def readVI (b : List UInt8) (i : Int) : Option (Int × Nat) := if 0 ≤ i then readV b i.toNat else none
theorem rvK_end {b : List UInt8} {f k i : Nat} {n : Int} (h : b.length ≤ i) : rvK b f k n i = none := by
  cases f with
  | zero => rfl
  | succ f => rw [rvK, List.getElem?_eq_none h]
theorem rvK_more {b : List UInt8} {f k i : Nat} {n : Int} {x : UInt8} (hx : b[i]? = some x) (h : ¬ x.toNat < 128) : rvK b (f + 1) k n i = rvK b f (k + 1) (n + (x.toNat : Int) % 128 * 128 ^ k) (i + 1) := by
  rw [rvK, hx]; simp only [if_neg h]
theorem rvK_bad {b : List UInt8} {f k i : Nat} {n : Int} {x : UInt8} (hx : b[i]? = some x) (h : x.toNat < 128) (hb : (x.toNat = 0 ∧ 0 < k) ∨ 1000000000000 < n + (x.toNat : Int) % 128 * 128 ^ k) : rvK b (f + 1) k n i = none := by
  rw [rvK, hx]; simp only [if_pos h, if_pos hb]
theorem rvK_last {b : List UInt8} {f k i : Nat} {n : Int} {x : UInt8} (hx : b[i]? = some x) (h : x.toNat < 128) (hb : ¬ ((x.toNat = 0 ∧ 0 < k) ∨ 1000000000000 < n + (x.toNat : Int) % 128 * 128 ^ k)) : rvK b (f + 1) k n i = some (n + (x.toNat : Int) % 128 * 128 ^ k, i + 1) := by
  rw [rvK, hx]; simp only [if_pos h, if_neg hb]
theorem rvK_out {b : List UInt8} : ∀ {f k i : Nat} {n : Int} {r : Int × Nat}, 0 ≤ n → rvK b f k n i = some r → 0 ≤ r.1 ∧ r.1 ≤ 1000000000000 ∧ i < r.2 ∧ r.2 ≤ b.length
  | 0, _, _, _, _, _, h => by cases h
  | f + 1, k, i, n, r, hn, h => by
    have hp : (0 : Int) ≤ 128 ^ k := Int.pow_nonneg (by omega)
    cases hx : b[i]? with
    | none => rw [rvK, hx] at h; cases h
    | some x =>
      have hi := (List.getElem?_eq_some_iff.1 hx).1
      have h0 : 0 ≤ (x.toNat : Int) % 128 * 128 ^ k := Int.mul_nonneg (by omega) hp
      by_cases hs : x.toNat < 128
      · by_cases hb : (x.toNat = 0 ∧ 0 < k) ∨ 1000000000000 < n + (x.toNat : Int) % 128 * 128 ^ k
        · rw [rvK_bad hx hs hb] at h; cases h
        · rw [rvK_last hx hs hb] at h
          cases h
          exact ⟨by show 0 ≤ n + _; omega, by show n + _ ≤ _; omega, by show i < i + 1; omega, by show i + 1 ≤ _; omega⟩
      · rw [rvK_more hx hs] at h
        have := rvK_out (by omega) h
        exact ⟨this.1, this.2.1, by omega, this.2.2.2⟩
theorem readV_out {b : List UInt8} {i : Nat} {r : Int × Nat} (h : readV b i = some r) : 0 ≤ r.1 ∧ r.1 ≤ 1000000000000 ∧ i < r.2 ∧ r.2 ≤ b.length := rvK_out (by omega) h
theorem readVI_out {b : List UInt8} {i : Int} {r : Int × Nat} (h : readVI b i = some r) : 0 ≤ r.1 ∧ r.1 ≤ 1000000000000 ∧ i < r.2 ∧ r.2 ≤ b.length ∧ 0 ≤ i := by
  unfold readVI at h
  split at h
  · have := readV_out h; omega
  · cases h
/-- Some numbers, one behind the other. -/
def decA (b : List UInt8) : Nat → Nat → List Int → Option (List Int × Nat)
  | 0, i, acc => some (acc, i)
  | n + 1, i, acc => match readV b i with
    | none => none
    | some (x, j) => decA b n j (acc ++ [x])
theorem decA_no {b : List UInt8} {n i : Nat} {acc : List Int} (h : readV b i = none) : decA b (n + 1) i acc = none := by rw [decA, h]
theorem decA_yes {b : List UInt8} {n i j : Nat} {x : Int} {acc : List Int} (h : readV b i = some (x, j)) : decA b (n + 1) i acc = decA b n j (acc ++ [x]) := by rw [decA, h]
theorem decA_add {b : List UInt8} : ∀ (m n i : Nat) (acc : List Int), decA b (m + n) i acc = match decA b m i acc with
    | none => none
    | some (l, j) => decA b n j l
  | 0, n, i, acc => by simp [decA]
  | m + 1, n, i, acc => by
    rw [show m + 1 + n = (m + n) + 1 by omega]
    cases h : readV b i with
    | none => rw [decA_no h, decA_no h]
    | some r =>
      obtain ⟨x, j⟩ := r
      rw [decA_yes h, decA_yes h, decA_add m n j]
theorem decA_acc {b : List UInt8} : ∀ (n i : Nat) (acc pre : List Int), decA b n i (pre ++ acc) = (decA b n i acc).map fun r => (pre ++ r.1, r.2)
  | 0, i, acc, pre => rfl
  | n + 1, i, acc, pre => by
    cases h : readV b i with
    | none => rw [decA_no h, decA_no h]; rfl
    | some r =>
      obtain ⟨x, j⟩ := r
      rw [decA_yes h, decA_yes h, List.append_assoc, decA_acc n j]
theorem decA_pre {b : List UInt8} (n i : Nat) (pre : List Int) : decA b n i pre = (decA b n i []).map fun r => (pre ++ r.1, r.2) := by
  have := decA_acc (b := b) n i [] pre
  rwa [List.append_nil] at this
theorem decA_out {b : List UInt8} : ∀ {n i : Nat} {acc : List Int} {r : List Int × Nat}, decA b n i acc = some r → (∀ x ∈ acc, 0 ≤ x ∧ x ≤ 1000000000000) → i ≤ b.length → r.1.length = acc.length + n ∧ (∀ x ∈ r.1, 0 ≤ x ∧ x ≤ 1000000000000) ∧ i ≤ r.2 ∧ r.2 ≤ b.length
  | 0, i, acc, r, h, ha, hi => by cases h; exact ⟨rfl, ha, Nat.le_refl _, hi⟩
  | n + 1, i, acc, r, h, ha, hi => by
    cases hr : readV b i with
    | none => rw [decA_no hr] at h; cases h
    | some q =>
      obtain ⟨x, j⟩ := q
      have ho := readV_out hr
      rw [decA_yes hr] at h
      have := decA_out h (fun y hy => by
        rcases List.mem_append.1 hy with hy | hy
        · exact ha y hy
        · rw [List.mem_singleton] at hy; rw [hy]; exact ⟨ho.1, ho.2.1⟩) ho.2.2.2
      have h3 : j ≤ r.2 := this.2.2.1
      have h4 : i < j := ho.2.2.1
      refine ⟨?_, this.2.1, by omega, this.2.2.2⟩
      rw [this.1, List.length_append, List.length_singleton]; omega
/-- Some numbers from a place that may lie outside. -/
def decI (b : List UInt8) (i : Int) (n : Int) : Option (List Int × Nat) := if inR n 0 100 && inR i 0 b.length then decA b n.toNat i.toNat [] else none
def dec3 : Option (List Int × Nat) → List Int × Int × Bool
  | none => ([], 0, false)
  | some (l, i) => (l, i, true)
theorem decI_out {b : List UInt8} {i n : Int} {r : List Int × Nat} (h : decI b i n = some r) : r.1.length = n.toNat ∧ (∀ x ∈ r.1, 0 ≤ x ∧ x ≤ 1000000000000) ∧ i ≤ r.2 ∧ r.2 ≤ b.length := by
  unfold decI at h
  split at h
  · rename_i hc
    simp only [Bool.and_eq_true] at hc
    have h2 := inR_iff.1 hc.2
    have := decA_out h (fun x hx => by cases hx) (by omega)
    refine ⟨by rw [this.1]; simp, this.2.1, by omega, this.2.2.2⟩
  · cases h
def partOfI (h hs : List Int) : Part := ⟨gI h 0, gI h 1, gI h 2, hopsAt hs 0 (gI h 3).toNat⟩
def rpK (b : List UInt8) : Nat → Nat → Path → Option (Path × Nat)
  | 0, i, acc => if encPath acc then some (acc, i) else none
  | n + 1, i, acc => match decA b 4 i [] with
    | none => none
    | some (h, j) => if 8 < gI h 3 then none else match decA b (5 * (gI h 3).toNat) j [] with
      | none => none
      | some (hs, e) => rpK b n e (acc ++ [partOfI h hs])
def readP (b : List UInt8) (i : Int) : Option (Path × Nat) := match readVI b i with
  | none => none
  | some (n, j) => if 3 < n then none else rpK b n.toNat j []
def rp3 : Option (Path × Nat) → Path × Int × Bool
  | none => ([], 0, false)
  | some (p, i) => (p, i, true)
theorem encPath_cat {p q : Path} (h : encPath (p ++ q) = true) : encPath p = true := by
  unfold encPath at *
  simp only [Bool.and_eq_true, decide_eq_true_eq, List.length_append, List.all_append] at h ⊢
  exact ⟨by omega, h.2.1⟩
/-- A part that cannot be encoded spoils the rest. -/
theorem rpK_spoilt {b : List UInt8} : ∀ (n i : Nat) (acc : Path), encPath acc = false → rpK b n i acc = none
  | 0, i, acc, h => by rw [rpK, h]; rfl
  | n + 1, i, acc, h => by
    rw [rpK]
    split
    · rfl
    · split
      · rfl
      · split
        · rfl
        · refine rpK_spoilt n _ _ ?_
          cases hc : encPath (acc ++ [partOfI _ _])
          · rfl
          · rw [encPath_cat hc] at h; cases h
theorem rpK_enc {b : List UInt8} : ∀ (n i : Nat) (acc : Path) {r : Path × Nat}, rpK b n i acc = some r → encPath r.1 = true ∧ (i ≤ b.length → r.2 ≤ b.length)
  | 0, i, acc, r, h => by
    rw [rpK] at h
    split at h
    · rename_i he
      cases h
      exact ⟨he, fun h => h⟩
    · cases h
  | n + 1, i, acc, r, h => by
    rw [rpK] at h
    split at h
    · cases h
    · rename_i h1 j hd
      split at h
      · cases h
      · split at h
        · cases h
        · rename_i hs e hd2
          have hi := rpK_enc n _ _ h
          refine ⟨hi.1, fun hb => hi.2 ?_⟩
          have hj := decA_out hd (fun x hx => by cases hx) hb
          exact (decA_out hd2 (fun x hx => by cases hx) hj.2.2.2).2.2.2
theorem readP_out {b : List UInt8} {i : Int} {r : Path × Nat} (h : readP b i = some r) : encPath r.1 = true ∧ r.2 ≤ b.length := by
  unfold readP at h
  split at h
  · cases h
  · rename_i n j hv
    split at h
    · cases h
    · have := rpK_enc _ _ _ h
      exact ⟨this.1, this.2 (readVI_out hv).2.2.2.1⟩
theorem gI_app {a b : List Int} {i : Nat} : gI (a ++ b) (a.length + i) = gI b i := by
  unfold gI; rw [List.getElem?_append_right (by omega), show a.length + i - a.length = i by omega]
theorem gI_left {a b : List Int} {i : Nat} (h : i < a.length) : gI (a ++ b) i = gI a i := by
  unfold gI; rw [List.getElem?_append_left h]
theorem hopAt_app {a b : List Int} {i : Nat} : hopAt (a ++ b) (a.length + i) = hopAt b i := by
  unfold hopAt; simp only [Nat.add_assoc, gI_app]
theorem hopsAt_app {a b : List Int} {i n : Nat} : hopsAt (a ++ b) (a.length + i) n = hopsAt b i n := by
  unfold hopsAt; simp only [Nat.add_assoc, hopAt_app]
theorem hopAt_piH (h : Hop) (l : List Int) : hopAt (piH h ++ l) 0 = h := rfl
theorem piH_len (hs : List Hop) : (hs.flatMap piH).length = 5 * hs.length := by
  induction hs with
  | nil => rfl
  | cons a t ih => rw [List.flatMap_cons, List.length_append, ih]; show 5 + _ = 5 * (t.length + 1); omega
theorem hopsAt_zero (l : List Int) (i : Nat) : hopsAt l i 0 = [] := rfl
theorem hopsAt_cons (l : List Int) (i n : Nat) : hopsAt l i (n + 1) = hopAt l i :: hopsAt l (i + 5) n := by
  unfold hopsAt
  rw [List.range_succ_eq_map, List.map_cons, List.map_map]
  have : ((List.range n).map ((fun j => hopAt l (i + 5 * j)) ∘ Nat.succ)) = (List.range n).map fun j => hopAt l (i + 5 + 5 * j) := List.map_congr_left fun j _ => by
    show hopAt l (i + 5 * (j + 1)) = hopAt l (i + 5 + 5 * j)
    rw [show i + 5 * (j + 1) = i + 5 + 5 * j by omega]
  rw [this]; rfl
theorem hopsAt_flat (hs : List Hop) : ∀ l : List Int, hopsAt (hs.flatMap piH ++ l) 0 hs.length = hs := by
  induction hs with
  | nil => intro l; rfl
  | cons a t ih =>
    intro l
    rw [List.length_cons, hopsAt_cons, List.flatMap_cons, List.append_assoc, hopAt_piH]
    have : hopsAt (piH a ++ (t.flatMap piH ++ l)) (0 + 5) t.length = hopsAt (t.flatMap piH ++ l) 0 t.length := hopsAt_app (a := piH a) (i := 0)
    rw [this, ih l]
theorem hopsAt_ints (l : List Int) (n : Nat) (h : l.length = 5 * n) : (hopsAt l 0 n).flatMap piH = l := by
  induction n generalizing l with
  | zero => rw [List.eq_nil_of_length_eq_zero (by omega : l.length = 0)]; rfl
  | succ n ih =>
    obtain ⟨a, b, c, d, e, t, rfl⟩ : ∃ a b c d e t, l = a :: b :: c :: d :: e :: t := by
      rcases l with _ | ⟨a, _ | ⟨b, _ | ⟨c, _ | ⟨d, _ | ⟨e, t⟩⟩⟩⟩⟩
      all_goals first | exact ⟨_, _, _, _, _, _, rfl⟩ | (simp at h; done) | (simp at h; omega)
    rw [hopsAt_cons, List.flatMap_cons]
    have h1 : hopAt (a :: b :: c :: d :: e :: t) 0 = ⟨a, b, c, d, e⟩ := rfl
    have h2 : hopsAt (a :: b :: c :: d :: e :: t) (0 + 5) n = hopsAt t 0 n := hopsAt_app (a := [a, b, c, d, e]) (i := 0)
    rw [h1, h2, ih t (by simp at h; omega)]
    rfl
/-- The numbers of a path, read again. -/
theorem pfi_ints (q : Path) : ∀ (pre : List Int) (acc : Path), (∀ x ∈ q, x.hops.length ≤ 8) → pfi (pre ++ pathInts q) pre.length acc = some (acc ++ q) := by
 induction q with
 | nil =>
  intro pre acc _
  rw [pfi_done (by simp [pathInts, intsOf]), List.append_nil]
 | cons x t ih =>
  intro pre acc h8
  have hx := h8 x (by simp)
  have e0 : pathInts (x :: t) = piP x ++ (x.hops.flatMap piH ++ pathInts t) := by
   show intsOf piP piH (x :: t) = _
   unfold intsOf
   rw [List.flatMap_cons, List.append_assoc]
   rfl
  have hl4 : (piP x).length = 4 := rfl
  have hlh := piH_len x.hops
  have g3 : gI (pre ++ pathInts (x :: t)) (pre.length + 3) = x.hops.length := by rw [gI_app, e0]; rfl
  have hlen : (pre ++ pathInts (x :: t)).length = pre.length + 4 + 5 * x.hops.length + (pathInts t).length := by
   rw [e0]; simp only [List.length_append, hl4, hlh]; omega
  have hok : okAt (pre ++ pathInts (x :: t)) pre.length := by
   unfold okAt
   rw [g3, hlen]
   omega
  have hpA : partAt (pre ++ pathInts (x :: t)) pre.length = x := by
   unfold partAt
   rw [g3]
   have a0 : gI (pre ++ pathInts (x :: t)) pre.length = x.kind := by have := gI_app (a := pre) (b := pathInts (x :: t)) (i := 0); rw [Nat.add_zero] at this; rw [this, e0]; rfl
   have a1 : gI (pre ++ pathInts (x :: t)) (pre.length + 1) = x.ts := by rw [gI_app, e0]; rfl
   have a2 : gI (pre ++ pathInts (x :: t)) (pre.length + 2) = x.beta := by rw [gI_app, e0]; rfl
   have a4 : hopsAt (pre ++ pathInts (x :: t)) (pre.length + 4) ((x.hops.length : Int)).toNat = x.hops := by
    rw [hopsAt_app, e0]
    have := hopsAt_app (a := piP x) (b := x.hops.flatMap piH ++ pathInts t) (i := 0) (n := x.hops.length)
    rw [hl4] at this
    rw [Int.toNat_natCast]
    exact this.trans (hopsAt_flat x.hops _)
   rw [a0, a1, a2, a4]
  rw [pfi_step (by rw [hlen]; omega) hok, hpA, g3]
  have e1 : pre ++ pathInts (x :: t) = (pre ++ piP x ++ x.hops.flatMap piH) ++ pathInts t := by rw [e0]; simp only [List.append_assoc]
  have e2 : pre.length + 4 + 5 * ((x.hops.length : Int)).toNat = (pre ++ piP x ++ x.hops.flatMap piH).length := by
   simp only [List.length_append, hl4, hlh, Int.toNat_natCast]
  rw [e1, e2, ih _ _ fun y hy => h8 y (by simp [hy]), List.append_assoc]
  rfl
theorem pathOf_ints {q : Path} (h : ∀ x ∈ q, x.hops.length ≤ 8) : pathOf (pathInts q) = if encPath q then (q, true) else ([], false) := by
  have := pfi_ints q [] [] h
  rw [List.nil_append, List.nil_append, List.length_nil] at this
  unfold pathOf
  rw [this]
end Go.Proofs.YtdaecknfahgddaaGreat
namespace Go.Proofs.YtdaecknfahgddaaGreat
open Go.RowKit
set_option linter.unusedVariables false
set_option maxRecDepth 20000
section
variable {P : Program} {n : Nat} {ops : Array Oper} {Q : Exit → Act → World → Prop} {L : Frm} {w : World} {m : Md} {r : IT} {d : Nat} {ty : TypeId} {pos : String} {af : Array Edge}
theorem pow128 {k : Nat} (h : k < 6) : (1 : Int) ≤ 128 ^ k ∧ (128 : Int) ^ k ≤ 34359738368 := by
  rcases k with _ | _ | _ | _ | _ | _ | k
  all_goals first | omega | (constructor <;> simp)
theorem mul128 {k : Nat} {c : Int} (h : k < 6) (h0 : 0 ≤ c) (h1 : c ≤ 127) : 0 ≤ c * 128 ^ k ∧ c * 128 ^ k ≤ 127 * 128 ^ k := by
  have hp := (pow128 h).1
  exact ⟨Int.mul_nonneg h0 (by omega), Int.mul_le_mul_of_nonneg_right h1 (by omega)⟩
theorem t_conv8 {s t : TypeId} {x : Operand} {sd : TypeDesc} {a : UInt8} (hs : P.underlying s = some sd) (ht : P.underlying t = some (.int .i64)) (hx : ev L x = some (.int .u8 (a.toNat : Int))) (k : WT P n ops Q r ((d, I (a.toNat : Int)) :: L) w) (hn : Nat.blt d n = true) : WT P n ops Q (.st m ⟨some d, .convert s t x, ty, pos, af, none⟩ r) L w := by
  have h := a.toNat_lt
  have hw : IntKind.i64.wrap (a.toNat : Int) = a.toNat := wr64 (by omega)
  exact t_read (fun e ha _ _ _ w' _ => by simp [execOp, ha.ev hx, convert, run_underlying hs, run_underlying ht, Conv.intToInt, hw]) k hn
theorem two7 (k : Nat) : (2 : Int) ^ (7 * k) = 128 ^ k := by rw [Int.pow_mul]; rfl
theorem t_shl7 {k : Nat} {x y : Operand} {t t' : TypeId} {kd : IntKind} {a c : Int} (hx : ev L x = some (I a)) (hy : ev L y = some (.int kd c)) (hc : c = 7 * (k : Int)) (hk : k < 6) (ha : 0 ≤ a ∧ a ≤ 127) (kk : WT P n ops Q r ((d, I (a * 128 ^ k)) :: L) w) (hn : Nat.blt d n = true) : WT P n ops Q (.st m ⟨some d, .binOp .shl t x y t', ty, pos, af, none⟩ r) L w := by
  have h1 := mul128 hk ha.1 ha.2
  have h2 := pow128 hk
  have hw : IntKind.i64.wrap (a * 128 ^ k) = a * 128 ^ k := wr64 (by omega)
  refine t_read (fun e ha' _ _ _ w' _ => ?_) kk hn
  have e1 : c.toNat = 7 * k := by omega
  simp [execOp, ha'.ev hx, ha'.ev hy, eqGuard, binOp, e1, two7, hw]
theorem t_or7 {k : Nat} {c : Int} {x y : Operand} {t t' : TypeId} {a : Int} (hx : ev L x = some (I a)) (hy : ev L y = some (I (c * 128 ^ k))) (ha : 0 ≤ a ∧ a < 128 ^ k) (hc : 0 ≤ c ∧ c ≤ 127) (hk : k < 6) (kk : WT P n ops Q r ((d, I (a + c * 128 ^ k)) :: L) w) (hn : Nat.blt d n = true) : WT P n ops Q (.st m ⟨some d, .binOp .or t x y t', ty, pos, af, none⟩ r) L w := by
  have h1 := mul128 hk hc.1 hc.2
  have h2 := pow128 hk
  have e1 : bits .or .i64 a (c * 128 ^ k) = a + c * 128 ^ k := by
    have hcm : bits .or .i64 a (c * 128 ^ k) = bits .or .i64 (c * 128 ^ k) a := by simp only [bits, BitVec.or_comm]
    rw [hcm, bits_join .i64 62 (by decide) (fun n h0 h1 => by rw [IntKind.wrap_i64]; omega) (7 * k) (c * 128 ^ k) a h1.1 (by rw [two7]; exact Int.mul_emod_left _ _) (by omega) ha.1 (by rw [two7]; exact ha.2) (by omega)]
    omega
  exact t_read (fun e ha' _ _ _ w' _ => by simp [execOp, ha'.ev hx, ha'.ev hy, eqGuard, binOp, intBits_or, e1]) kk hn
end
theorem rv3_true {o : Option (Int × Nat)} {n j : Int} (h : rv3 o = (n, j, true)) : ∃ m : Nat, o = some (n, m) ∧ j = m := by
  rcases o with _ | ⟨a, m⟩
  · cases h
  · cases h; exact ⟨m, rfl, rfl⟩
theorem rv3_false {o : Option (Int × Nat)} {n j : Int} (h : rv3 o = (n, j, false)) : o = none := by
  rcases o with _ | ⟨a, m⟩
  · rfl
  · cases h
theorem ret_rv {o : Option (Int × Nat)} {n j a c : Int} {ok d : Bool} (hr : rv3 o = (n, j, ok)) (h : rv3 o = (a, c, d)) : Ending.returned (.tuple #[I a, I c, .bool d]) = .returned (.tuple #[I n, I j, .bool ok]) := by
  rw [h] at hr
  cases hr
  rfl
theorem impl_ReadVarint (b : List UInt8) (v : Value) (i : Int) {n0 j0 : Int} {ok0 : Bool} (w : World) (h : SlR byteT w v b) (hz : b.length ≤ 1048576) (hi : i ≤ 9223372036854775807) (hr : rv3 (readVI b i) = (n0, j0, ok0)) : Calls Tryz.prog 140 #[v, I i] w fun e w' => e = .returned (.tuple #[I n0, I j0, .bool ok0]) ∧ Below w.heap.size w w' := by
 have X0 := Below.refl w.heap.size w
 refine enter Tryz.func140 rfl Tryz.ntmps140 rfl ?_
 refine w_s ?_
 refine w_g ?_
 have S := Sep.nil w
 have B := Below.refl w.heap.size w
 have Hb := Nat.le_refl w.heap.size
 iterate 3 refine t_a rfl ?_ rfl
 refine t_d ?_
 refine x_s ?_
 iterate 2 refine w_s ?_
 refine w_g ?_
 refine t_m rfl ?_ rfl
 refine t_lss rfl rfl ?_ rfl
 refine t_d ?_
 refine x_s ?_
 refine w_if rfl ?_ ?_
 ·intro h1
  refine w_s ?_
  refine w_g ?_
  iterate 3 refine t_a rfl ?_ rfl
  refine t_d ?_
  refine x_s ?_
  refine w_r ?_
  refine x_t ?_
  refine x_ret3 rfl rfl rfl rfl ?_
  exact ⟨ret_rv hr (by rw [readVI, if_neg (by omega)]; rfl), X0⟩
 intro h1
 obtain ⟨i0, rfl⟩ : ∃ i0 : Nat, i = i0 := ⟨i.toNat, by omega⟩
 have hrv : readVI b (i0 : Int) = rvK b 6 0 0 i0 := by rw [readVI, if_pos (by omega)]; rfl
 refine w_k ?_
 refine x_s ?_
 refine w_s ?_
 refine w_g ?_
 refine t_a rfl ?_ rfl
 refine t_d ?_
 refine x_s ?_
 iterate 2 refine w_s ?_
 refine w_g ?_
 refine t_a rfl ?_ rfl
 refine t_d ?_
 refine x_s ?_
 refine w_block ?_
 refine w_loop (X := Nat × Nat × Int) (fun x wq => (fun k i n => k ≤ 6 ∧ 0 ≤ n ∧ n < 128 ^ k ∧ rvK b (6 - k) k n i = rvK b 6 0 0 i0 ∧ Below w.heap.size w wq ∧ Sep w.heap.size wq []) x.1 x.2.1 x.2.2) (fun x => (fun k i n => [(8, I ((k : Int))), (1, I ((i : Int))), (7, I n), (0, v)]) x.1 x.2.1 x.2.2) (fun x => (fun k i n => 6 - k) x.1 x.2.1 x.2.2) (0, i0, 0) ?_ ⟨rfl, rfl, rfl, rfl, trivial⟩ ?_
 ·exact ⟨by omega, by simp, by simp, rfl, B, S⟩
 ·rintro ⟨k, i, n⟩ w1 hI
  try dsimp only at hI ⊢
  obtain ⟨hk, hn0, hn1, hq, B, S⟩ := hI
  iterate 2 refine w_s ?_
  refine w_g ?_
  refine t_m rfl ?_ rfl
  refine t_lss rfl rfl ?_ rfl
  refine t_m rfl ?_ rfl
  refine t_partp (t := 14) rfl ?_ ?_
  ·intro hk6
   refine t_on rfl rfl ?_
   refine t_m rfl ?_ rfl
   refine t_on rfl rfl ?_
   refine t_m rfl ?_ rfl
   refine t_on rfl rfl ?_
   refine t_len e_byte ‹_› rfl rfl ?_ rfl
   refine t_on rfl rfl ?_
   refine t_lss rfl rfl ?_ rfl
   refine t_q rfl rfl ?_ rfl
   refine t_d ?_
   refine x_s ?_
   refine w_if rfl ?_ ?_
   ·intro hlt
    obtain ⟨x, hx⟩ : ∃ x, b[i]? = some x := getx (by omega)
    have hk' : k < 6 := by omega
    have hb8 : x.toNat < 256 := x.toNat_lt
    have hm := mul128 (c := (x.toNat : Int) % 128) hk' (by omega) (by omega)
    have hp := pow128 hk'
    have hf : 6 - k = (6 - (k + 1)) + 1 := by omega
    have hp7 : (128 : Int) ^ (k + 1) = 128 ^ k * 128 := Int.pow_succ ..
    rw [hf] at hq
    refine w_k ?_
    refine x_s ?_
    refine w_s ?_
    refine w_block ?_
    refine w_s ?_
    refine w_g ?_
    iterate 2 refine t_m rfl ?_ rfl
    refine t_idx e_byte (k := i) ‹_› hx B rfl rfl (by first | rfl | omega) ?_ rfl
    intro p24 hp24
    refine t_ldu ‹_› ab_byte B rfl ?_ rfl
    refine t_conv8 Tryz.underlying5 Tryz.underlying3 rfl ?_ rfl
    refine t_a rfl ?_ rfl
    refine t_d ?_
    refine x_s ?_
    refine w_s ?_
    refine w_g ?_
    refine t_m rfl ?_ rfl
    refine t_add rfl rfl (by omega) ?_ rfl
    refine t_a rfl ?_ rfl
    refine t_d ?_
    refine x_s ?_
    refine w_s ?_
    refine w_g ?_
    iterate 2 refine t_m rfl ?_ rfl
    refine t_rem rfl rfl (by omega) ?_ rfl
    refine t_m rfl ?_ rfl
    refine t_mul rfl rfl (by omega) ?_ rfl
    refine t_conv Tryz.underlying3 Tryz.underlying157 rfl ?_ rfl
    refine t_shl7 (k := k) rfl rfl (by first | rfl | omega | (rw [IntKind.wrap_u64]; omega)) (by omega) (by omega) ?_ rfl
    refine t_add rfl rfl (by omega) ?_ rfl
    refine t_a rfl ?_ rfl
    refine t_d ?_
    refine x_s ?_
    refine w_s ?_
    refine w_g ?_
    refine t_m rfl ?_ rfl
    refine t_lss rfl rfl ?_ rfl
    refine t_d ?_
    refine x_s ?_
    refine w_if rfl ?_ ?_
    ·intro hs
     have hs' : x.toNat < 128 := by omega
     iterate 2 refine w_s ?_
     refine w_g ?_
     refine t_m rfl ?_ rfl
     refine t_eql rfl rfl ?_ rfl
     refine t_m rfl ?_ rfl
     refine t_partp (t := 41) rfl ?_ ?_
     ·intro hx0
      refine t_on rfl rfl ?_
      refine t_m rfl ?_ rfl
      refine t_on rfl rfl ?_
      refine t_gtr rfl rfl ?_ rfl
      refine t_q rfl rfl ?_ rfl
      refine t_m rfl ?_ rfl
      refine t_partp (t := 45) rfl ?_ ?_
      ·intro hbad
       iterate 2 refine t_off rfl rfl rfl ?_ rfl
       refine t_q rfl rfl ?_ rfl
       refine t_d ?_
       refine x_s ?_
       refine w_yes rfl ?_
       refine w_s ?_
       refine w_g ?_
       iterate 3 refine t_a rfl ?_ rfl
       refine t_d ?_
       refine x_s ?_
       refine w_r ?_
       refine x_t ?_
       refine x_block_ret ?_
       iterate 2 refine x_t ?_
       refine x_block_ret ?_
       refine x_t ?_
       refine x_ret3 rfl rfl rfl rfl ?_
       rw [rvK_bad hx hs' (.inl ⟨by omega, by omega⟩)] at hq
       exact ⟨ret_rv hr (by rw [hrv, ← hq]; rfl), ext_trans X0 B⟩
      ·intro hbad
       refine t_on rfl rfl ?_
       refine t_m rfl ?_ rfl
       refine t_on rfl rfl ?_
       refine t_gtr rfl rfl ?_ rfl
       refine t_p rfl rfl ?_ rfl
       refine t_d ?_
       refine x_s ?_
       refine w_if rfl ?_ ?_
       ·intro hbig
        refine w_s ?_
        refine w_g ?_
        iterate 3 refine t_a rfl ?_ rfl
        refine t_d ?_
        refine x_s ?_
        refine w_r ?_
        refine x_t ?_
        refine x_block_ret ?_
        iterate 2 refine x_t ?_
        refine x_block_ret ?_
        refine x_t ?_
        refine x_ret3 rfl rfl rfl rfl ?_
        rw [rvK_bad hx hs' (.inr (by omega))] at hq
        exact ⟨ret_rv hr (by rw [hrv, ← hq]; rfl), ext_trans X0 B⟩
       ·intro hbig
        refine w_k ?_
        refine x_s ?_
        refine w_s ?_
        refine w_g ?_
        iterate 2 refine t_m rfl ?_ rfl
        iterate 3 refine t_a rfl ?_ rfl
        refine t_d ?_
        refine x_s ?_
        refine w_r ?_
        refine x_block_ret ?_
        iterate 2 refine x_t ?_
        refine x_block_ret ?_
        refine x_t ?_
        refine x_ret3 rfl rfl rfl rfl ?_
        rw [rvK_last hx hs' (by omega)] at hq
        exact ⟨ret_rv hr (by rw [hrv, ← hq]; rfl), ext_trans X0 B⟩
     ·intro hx0
      iterate 2 refine t_off rfl rfl rfl ?_ rfl
      refine t_p rfl rfl ?_ rfl
      refine t_m rfl ?_ rfl
      refine t_on rfl rfl ?_
      refine t_m rfl ?_ rfl
      refine t_on rfl rfl ?_
      refine t_gtr rfl rfl ?_ rfl
      refine t_p rfl rfl ?_ rfl
      refine t_d ?_
      refine x_s ?_
      refine w_if rfl ?_ ?_
      ·intro hbig
       refine w_s ?_
       refine w_g ?_
       iterate 3 refine t_a rfl ?_ rfl
       refine t_d ?_
       refine x_s ?_
       refine w_r ?_
       refine x_t ?_
       refine x_block_ret ?_
       iterate 2 refine x_t ?_
       refine x_block_ret ?_
       refine x_t ?_
       refine x_ret3 rfl rfl rfl rfl ?_
       rw [rvK_bad hx hs' (.inr (by omega))] at hq
       exact ⟨ret_rv hr (by rw [hrv, ← hq]; rfl), ext_trans X0 B⟩
      ·intro hbig
       refine w_k ?_
       refine x_s ?_
       refine w_s ?_
       refine w_g ?_
       iterate 2 refine t_m rfl ?_ rfl
       iterate 3 refine t_a rfl ?_ rfl
       refine t_d ?_
       refine x_s ?_
       refine w_r ?_
       refine x_block_ret ?_
       iterate 2 refine x_t ?_
       refine x_block_ret ?_
       refine x_t ?_
       refine x_ret3 rfl rfl rfl rfl ?_
       rw [rvK_last hx hs' (by omega)] at hq
       exact ⟨ret_rv hr (by rw [hrv, ← hq]; rfl), ext_trans X0 B⟩
    ·intro hs
     refine w_k ?_
     refine x_b ?_
     refine x_s ?_
     refine w_g ?_
     refine t_m rfl ?_ rfl
     refine t_add rfl rfl (by omega) ?_ rfl
     refine t_a rfl ?_ rfl
     refine t_d ?_
     refine x_r (X := Nat × Nat × Int) (k + 1, i + 1, n + (((x.toNat : Int) % 128) * 128 ^ k)) ?_ (by exact ⟨rfl, rfl, rfl, rfl, trivial⟩) (by (try dsimp only); omega)
     try dsimp only
     rw [rvK_more hx (by omega)] at hq
     exact ⟨by omega, by omega, by omega, hq, B, S⟩
   ·intro hge
    refine w_exit ?_
    iterate 2 refine x_then_exit ?_
    refine x_block_exit ?_
    refine x_s ?_
    refine w_s ?_
    refine w_g ?_
    iterate 3 refine t_a rfl ?_ rfl
    refine t_d ?_
    refine x_s ?_
    refine w_r ?_
    refine x_ret3 rfl rfl rfl rfl ?_
    rw [rvK_end (by omega)] at hq
    exact ⟨ret_rv hr (by rw [hrv, ← hq]; rfl), ext_trans X0 B⟩
  ·intro hk6
   iterate 4 refine t_off rfl rfl rfl ?_ rfl
   refine t_p rfl rfl ?_ rfl
   refine t_d ?_
   refine x_s ?_
   refine w_no rfl ?_
   refine w_exit ?_
   iterate 2 refine x_then_exit ?_
   refine x_block_exit ?_
   refine x_s ?_
   refine w_s ?_
   refine w_g ?_
   iterate 3 refine t_a rfl ?_ rfl
   refine t_d ?_
   refine x_s ?_
   refine w_r ?_
   refine x_ret3 rfl rfl rfl rfl ?_
   have : 6 - k = 0 := by omega
   rw [this] at hq
   exact ⟨ret_rv hr (by rw [hrv, ← hq]; rfl), ext_trans X0 B⟩
theorem spec_ReadVarint (b : List UInt8) (v : Value) (i : Int) {n0 j0 : Int} {ok0 : Bool} (w : World) (h : SlR byteT w v b) (hz : b.length ≤ 1048576) (hi : i ≤ 9223372036854775807) (hr : rv3 (readVI b i) = (n0, j0, ok0)) : Calls Tryz.prog 142 #[v, I i] w fun e w' => e = .returned (.tuple #[I n0, I j0, .bool ok0]) ∧ Below w.heap.size w w' := by
 have X0 := Below.refl w.heap.size w
 refine enter Tryz.func142 rfl Tryz.ntmps142 rfl ?_
 refine w_s ?_
 refine w_g ?_
 have S := Sep.nil w
 have B := Below.refl w.heap.size w
 have Hb := Nat.le_refl w.heap.size
 iterate 3 refine t_a rfl ?_ rfl
 refine t_d ?_
 refine x_s ?_
 refine w_s ?_
 refine w_g ?_
 refine t_a rfl ?_ rfl
 refine t_d ?_
 refine x_s ?_
 iterate 2 refine w_s ?_
 refine w_g ?_
 refine t_a rfl ?_ rfl
 refine t_d ?_
 refine x_s ?_
 refine w_block ?_
 refine w_loop (X := Nat × Int) (fun x wq => (fun k n => k ≤ 6 ∧ (k = 0 ∨ 0 ≤ i) ∧ 0 ≤ n ∧ n < 128 ^ k ∧ (0 ≤ i → rvK b (6 - k) k n (i.toNat + k) = readVI b i) ∧ Below w.heap.size w wq ∧ Sep w.heap.size wq []) x.1 x.2) (fun x => (fun k n => [(8, I ((k : Int))), (7, I n), (0, v), (1, I i)]) x.1 x.2) (fun x => (fun k n => 6 - k) x.1 x.2) (0, 0) ?_ ⟨rfl, rfl, rfl, rfl, trivial⟩ ?_
 ·exact ⟨by omega, .inl rfl, by simp, by simp, fun h0 => by rw [readVI, if_pos h0]; rfl, B, S⟩
 ·rintro ⟨k, n⟩ w2 hI
  try dsimp only at hI ⊢
  obtain ⟨hk, hki, hn0, hn1, hq, B, S⟩ := hI
  iterate 2 refine w_s ?_
  refine w_g ?_
  refine t_m rfl ?_ rfl
  refine t_lss rfl rfl ?_ rfl
  refine t_d ?_
  refine x_s ?_
  refine w_if rfl ?_ ?_
  ·intro hk6
   refine w_k ?_
   refine x_s ?_
   refine w_s ?_
   refine w_block ?_
   iterate 2 refine w_s ?_
   refine w_g ?_
   refine t_m rfl ?_ rfl
   refine t_lss rfl rfl ?_ rfl
   refine t_m rfl ?_ rfl
   refine t_partp (t := 16) rfl ?_ ?_
   ·intro hneg
    iterate 6 refine t_off rfl rfl rfl ?_ rfl
    refine t_q rfl rfl ?_ rfl
    refine t_d ?_
    refine x_s ?_
    refine w_yes rfl ?_
    refine w_s ?_
    refine w_g ?_
    iterate 3 refine t_a rfl ?_ rfl
    refine t_d ?_
    refine x_s ?_
    refine w_r ?_
    refine x_t ?_
    refine x_block_ret ?_
    iterate 2 refine x_t ?_
    refine x_block_ret ?_
    refine x_t ?_
    refine x_ret3 rfl rfl rfl rfl ?_
    exact ⟨ret_rv hr (by rw [readVI, if_neg (by omega)]; rfl), ext_trans X0 B⟩
   ·intro hneg
    have hq := hq (by omega)
    refine t_on rfl rfl ?_
    refine t_m rfl ?_ rfl
    refine t_on rfl rfl ?_
    refine t_m rfl ?_ rfl
    refine t_on rfl rfl ?_
    refine t_len e_byte ‹_› rfl rfl ?_ rfl
    refine t_on rfl rfl ?_
    refine t_m rfl ?_ rfl
    refine t_on rfl rfl ?_
    refine t_sub rfl rfl (by omega) ?_ rfl
    refine t_on rfl rfl ?_
    refine t_geq rfl rfl ?_ rfl
    refine t_p rfl rfl ?_ rfl
    refine t_d ?_
    refine x_s ?_
    refine w_if rfl ?_ ?_
    ·intro hge
     refine w_s ?_
     refine w_g ?_
     iterate 3 refine t_a rfl ?_ rfl
     refine t_d ?_
     refine x_s ?_
     refine w_r ?_
     refine x_t ?_
     refine x_block_ret ?_
     iterate 2 refine x_t ?_
     refine x_block_ret ?_
     refine x_t ?_
     refine x_ret3 rfl rfl rfl rfl ?_
     rw [rvK_end (by omega)] at hq
     exact ⟨ret_rv hr (by rw [← hq]; rfl), ext_trans X0 B⟩
    ·intro hlt
     obtain ⟨x, hx⟩ : ∃ x, b[i.toNat + k]? = some x := getx (by omega)
     have hk' : k < 6 := by omega
     have hb8 : x.toNat < 256 := x.toNat_lt
     have hm := mul128 (c := (x.toNat : Int) % 128) hk' (by omega) (by omega)
     have hp := pow128 hk'
     have hf : 6 - k = (6 - (k + 1)) + 1 := by omega
     have hp7 : (128 : Int) ^ (k + 1) = 128 ^ k * 128 := Int.pow_succ ..
     rw [hf] at hq
     refine w_k ?_
     refine x_s ?_
     refine w_s ?_
     refine w_g ?_
     iterate 3 refine t_m rfl ?_ rfl
     refine t_add rfl rfl (by omega) ?_ rfl
     refine t_idx e_byte (k := (i.toNat + k)) ‹_› hx B rfl rfl (by first | rfl | omega) ?_ rfl
     intro p28 hp28
     refine t_ldu ‹_› ab_byte B rfl ?_ rfl
     refine t_conv8 Tryz.underlying5 Tryz.underlying3 rfl ?_ rfl
     refine t_a rfl ?_ rfl
     refine t_d ?_
     refine x_s ?_
     refine w_s ?_
     refine w_g ?_
     iterate 2 refine t_m rfl ?_ rfl
     refine t_and127 rfl rfl ?_ rfl
     refine t_m rfl ?_ rfl
     refine t_mul rfl rfl (by omega) ?_ rfl
     refine t_shl7 (k := k) rfl rfl (by first | rfl | omega | (rw [IntKind.wrap_u64]; omega)) (by omega) (by omega) ?_ rfl
     refine t_or7 (k := k) (c := (x.toNat : Int) % 128) rfl rfl (by omega) (by omega) (by omega) ?_ rfl
     refine t_a rfl ?_ rfl
     refine t_d ?_
     refine x_s ?_
     refine w_s ?_
     refine w_g ?_
     refine t_m rfl ?_ rfl
     refine t_lss rfl rfl ?_ rfl
     refine t_d ?_
     refine x_s ?_
     refine w_if rfl ?_ ?_
     ·intro hs
      have hs' : x.toNat < 128 := by omega
      iterate 2 refine w_s ?_
      refine w_g ?_
      refine t_m rfl ?_ rfl
      refine t_eql rfl rfl ?_ rfl
      refine t_m rfl ?_ rfl
      refine t_partp (t := 42) rfl ?_ ?_
      ·intro hx0
       refine t_on rfl rfl ?_
       refine t_m rfl ?_ rfl
       refine t_on rfl rfl ?_
       refine t_gtr rfl rfl ?_ rfl
       refine t_q rfl rfl ?_ rfl
       refine t_m rfl ?_ rfl
       refine t_partp (t := 46) rfl ?_ ?_
       ·intro hbad
        iterate 2 refine t_off rfl rfl rfl ?_ rfl
        refine t_q rfl rfl ?_ rfl
        refine t_d ?_
        refine x_s ?_
        refine w_yes rfl ?_
        refine w_s ?_
        refine w_g ?_
        iterate 3 refine t_a rfl ?_ rfl
        refine t_d ?_
        refine x_s ?_
        refine w_r ?_
        refine x_t ?_
        refine x_block_ret ?_
        iterate 2 refine x_t ?_
        refine x_block_ret ?_
        refine x_t ?_
        refine x_ret3 rfl rfl rfl rfl ?_
        rw [rvK_bad hx hs' (.inl ⟨by omega, by omega⟩)] at hq
        exact ⟨ret_rv hr (by rw [← hq]; rfl), ext_trans X0 B⟩
       ·intro hbad
        refine t_on rfl rfl ?_
        refine t_m rfl ?_ rfl
        refine t_on rfl rfl ?_
        refine t_gtr rfl rfl ?_ rfl
        refine t_p rfl rfl ?_ rfl
        refine t_d ?_
        refine x_s ?_
        refine w_if rfl ?_ ?_
        ·intro hbig
         refine w_s ?_
         refine w_g ?_
         iterate 3 refine t_a rfl ?_ rfl
         refine t_d ?_
         refine x_s ?_
         refine w_r ?_
         refine x_t ?_
         refine x_block_ret ?_
         iterate 2 refine x_t ?_
         refine x_block_ret ?_
         refine x_t ?_
         refine x_ret3 rfl rfl rfl rfl ?_
         rw [rvK_bad hx hs' (.inr (by omega))] at hq
         exact ⟨ret_rv hr (by rw [← hq]; rfl), ext_trans X0 B⟩
        ·intro hbig
         refine w_k ?_
         refine x_s ?_
         refine w_s ?_
         refine w_g ?_
         iterate 3 refine t_m rfl ?_ rfl
         refine t_add rfl rfl (by omega) ?_ rfl
         refine t_add rfl rfl (by omega) ?_ rfl
         iterate 3 refine t_a rfl ?_ rfl
         refine t_d ?_
         refine x_s ?_
         refine w_r ?_
         refine x_block_ret ?_
         iterate 2 refine x_t ?_
         refine x_block_ret ?_
         refine x_t ?_
         refine x_ret3 rfl rfl rfl rfl ?_
         rw [rvK_last hx hs' (by omega)] at hq
         exact ⟨ret_rv hr (by rw [← hq]; simp only [rv3]; congr 2; omega), ext_trans X0 B⟩
      ·intro hx0
       iterate 2 refine t_off rfl rfl rfl ?_ rfl
       refine t_p rfl rfl ?_ rfl
       refine t_m rfl ?_ rfl
       refine t_on rfl rfl ?_
       refine t_m rfl ?_ rfl
       refine t_on rfl rfl ?_
       refine t_gtr rfl rfl ?_ rfl
       refine t_p rfl rfl ?_ rfl
       refine t_d ?_
       refine x_s ?_
       refine w_if rfl ?_ ?_
       ·intro hbig
        refine w_s ?_
        refine w_g ?_
        iterate 3 refine t_a rfl ?_ rfl
        refine t_d ?_
        refine x_s ?_
        refine w_r ?_
        refine x_t ?_
        refine x_block_ret ?_
        iterate 2 refine x_t ?_
        refine x_block_ret ?_
        refine x_t ?_
        refine x_ret3 rfl rfl rfl rfl ?_
        rw [rvK_bad hx hs' (.inr (by omega))] at hq
        exact ⟨ret_rv hr (by rw [← hq]; rfl), ext_trans X0 B⟩
       ·intro hbig
        refine w_k ?_
        refine x_s ?_
        refine w_s ?_
        refine w_g ?_
        iterate 3 refine t_m rfl ?_ rfl
        refine t_add rfl rfl (by omega) ?_ rfl
        refine t_add rfl rfl (by omega) ?_ rfl
        iterate 3 refine t_a rfl ?_ rfl
        refine t_d ?_
        refine x_s ?_
        refine w_r ?_
        refine x_block_ret ?_
        iterate 2 refine x_t ?_
        refine x_block_ret ?_
        refine x_t ?_
        refine x_ret3 rfl rfl rfl rfl ?_
        rw [rvK_last hx hs' (by omega)] at hq
        exact ⟨ret_rv hr (by rw [← hq]; simp only [rv3]; congr 2; omega), ext_trans X0 B⟩
     ·intro hs
      refine w_k ?_
      refine x_b ?_
      refine x_s ?_
      refine w_g ?_
      refine t_m rfl ?_ rfl
      refine t_add rfl rfl (by omega) ?_ rfl
      refine t_a rfl ?_ rfl
      refine t_d ?_
      refine x_r (X := Nat × Int) (k + 1, n + (((x.toNat : Int) % 128) * 128 ^ k)) ?_ (by exact ⟨rfl, rfl, rfl, rfl, trivial⟩) (by (try dsimp only); omega)
      try dsimp only
      rw [rvK_more hx (by omega)] at hq
      exact ⟨by omega, by omega, by omega, by omega, fun _ => hq, B, S⟩
  ·intro hk6
   refine w_exit ?_
   iterate 2 refine x_then_exit ?_
   refine x_block_exit ?_
   refine x_s ?_
   refine w_s ?_
   refine w_g ?_
   iterate 3 refine t_a rfl ?_ rfl
   refine t_d ?_
   refine x_s ?_
   refine w_r ?_
   refine x_ret3 rfl rfl rfl rfl ?_
   have : 6 - k = 0 := by omega
   rw [this] at hq
   exact ⟨ret_rv hr (by rw [← hq (by omega)]; rfl), ext_trans X0 B⟩
theorem rv_no {o : Option (Int × Nat)} {n j : Int} {ok : Bool} (hr : rv3 o = (n, j, ok)) (h : (!ok) = true) : o = none := by
  cases ok
  · exact rv3_false hr
  · cases h
theorem rv_yes {b : List UInt8} {i n j : Int} {ok : Bool} (hr : rv3 (readVI b i) = (n, j, ok)) (h : (!ok) = false) : readVI b i = some (n, j.toNat) ∧ 0 ≤ n ∧ n ≤ 1000000000000 ∧ i < j ∧ j ≤ b.length ∧ 0 ≤ i := by
  cases ok
  · cases h
  · obtain ⟨m, ho, rfl⟩ := rv3_true hr
    have := readVI_out ho
    exact ⟨ho, this.1, this.2.1, this.2.2.1, by have := this.2.2.2.1; show (m : Int) ≤ _; omega, this.2.2.2.2⟩
theorem dec3_true {o : Option (List Int × Nat)} {l : List Int} {j : Int} (h : dec3 o = (l, j, true)) : ∃ m : Nat, o = some (l, m) ∧ j = m := by
  rcases o with _ | ⟨a, m⟩
  · cases h
  · cases h; exact ⟨m, rfl, rfl⟩
theorem dec_no {o : Option (List Int × Nat)} {l : List Int} {j : Int} {ok : Bool} (hr : dec3 o = (l, j, ok)) (h : (!ok) = true) : o = none := by
  cases ok
  · rcases o with _ | ⟨a, m⟩
    · rfl
    · cases hr
  · cases h
theorem dec_yes {b : List UInt8} {i n j : Int} {l : List Int} {ok : Bool} (hr : dec3 (decI b i n) = (l, j, ok)) (h : (!ok) = false) : decI b i n = some (l, j.toNat) ∧ l.length = n.toNat ∧ (∀ x ∈ l, 0 ≤ x ∧ x ≤ 1000000000000) ∧ i ≤ j ∧ j ≤ b.length ∧ 0 ≤ j := by
  cases ok
  · cases h
  · obtain ⟨m, ho, rfl⟩ := dec3_true hr
    have := decI_out ho
    exact ⟨ho, this.1, this.2.1, this.2.2.1, by have := this.2.2.2; show (m : Int) ≤ _; omega, by omega⟩
theorem impl_DecodeInts (b : List UInt8) (v : Value) (i n : Int) {l0 : List Int} {j0 : Int} {ok0 : Bool} (w : World) (h : SlR byteT w v b) (hz : b.length ≤ 1048576) (hr : dec3 (decI b i n) = (l0, j0, ok0)) : Calls Tryz.prog 89 #[v, I i, I n] w fun e w' => ∃ v fp, e = .returned (.tuple #[v, I j0, .bool ok0]) ∧ SlO intT 3 w.heap.size w' v l0 fp ∧ Below w.heap.size w w' := by
 have X0 := Below.refl w.heap.size w
 refine enter Tryz.func89 rfl Tryz.ntmps89 rfl ?_
 refine w_s ?_
 refine w_g ?_
 have S := Sep.nil w
 have B := Below.refl w.heap.size w
 have Hb := Nat.le_refl w.heap.size
 iterate 3 refine t_a rfl ?_ rfl
 refine t_d ?_
 refine x_s ?_
 iterate 2 refine w_s ?_
 refine w_g ?_
 refine t_m rfl ?_ rfl
 refine t_calls Tryz.call61 rfl (impl_InRange _ _ _ _) ?_ rfl rfl
 refine t_notb rfl ?_ rfl
 refine t_m rfl ?_ rfl
 refine t_part (t := 17) rfl ?_ ?_
 ·intro h1
  iterate 5 refine t_off rfl rfl rfl ?_ rfl
  refine t_q rfl rfl ?_ rfl
  refine t_d ?_
  refine x_s ?_
  refine w_yes rfl ?_
  refine w_s ?_
  refine w_g ?_
  iterate 3 refine t_a rfl ?_ rfl
  refine t_d ?_
  refine x_s ?_
  refine w_r ?_
  refine x_t ?_
  refine x_ret3 rfl rfl rfl rfl ?_
  rw [decI, show inR n 0 100 = false by simpa using h1] at hr
  cases hr
  obtain ⟨fp, hO⟩ := (S.addNil.mono X0.size).head
  exact ⟨_, fp, rfl, hO, ext_trans X0 B⟩
 intro h1
 have h1' : inR n 0 100 = true := by simpa using h1
 have r1 := inR_iff.1 h1'
 refine t_on rfl rfl ?_
 refine t_m rfl ?_ rfl
 refine t_on rfl rfl ?_
 refine t_m rfl ?_ rfl
 refine t_on rfl rfl ?_
 refine t_len e_byte ‹_› rfl rfl ?_ rfl
 refine t_on rfl rfl ?_
 refine t_calls Tryz.call61 rfl (impl_InRange _ _ _ _) ?_ rfl rfl
 refine t_on rfl rfl ?_
 refine t_notb rfl ?_ rfl
 refine t_p rfl rfl ?_ rfl
 refine t_d ?_
 refine x_s ?_
 refine w_ifb rfl ?_ ?_
 ·intro h2
  refine w_s ?_
  refine w_g ?_
  iterate 3 refine t_a rfl ?_ rfl
  refine t_d ?_
  refine x_s ?_
  refine w_r ?_
  refine x_t ?_
  refine x_ret3 rfl rfl rfl rfl ?_
  rw [decI, h1', show inR i 0 b.length = false by simpa using h2] at hr
  cases hr
  obtain ⟨fp, hO⟩ := (S.addNil.mono X0.size).head
  exact ⟨_, fp, rfl, hO, ext_trans X0 B⟩
 intro h2
 have h2' : inR i 0 b.length = true := by simpa using h2
 have r2 := inR_iff.1 h2'
 have hd : decI b i n = decA b n.toNat i.toNat [] := by rw [decI, h1', h2']; rfl
 refine w_k ?_
 refine x_s ?_
 refine w_s ?_
 refine w_g ?_
 refine t_a rfl ?_ rfl
 refine t_d ?_
 refine x_s ?_
 iterate 2 refine w_s ?_
 refine w_g ?_
 refine t_a rfl ?_ rfl
 refine t_d ?_
 refine x_s ?_
 refine w_block ?_
 refine w_loop (X := Nat × Int × List Int × Value) (fun x wq => (fun k q acc u => k ≤ n.toNat ∧ (0 : Int) ≤ q ∧ q ≤ b.length ∧ acc.length = k ∧ decA b (n.toNat - k) q.toNat acc = decA b n.toNat i.toNat [] ∧ Below w.heap.size w wq ∧ Sep w.heap.size wq [slO intT 3 u acc]) x.1 x.2.1 x.2.2.1 x.2.2.2) (fun x => (fun k q acc u => [(10, I ((k : Int))), (1, I q), (9, u), (0, v), (2, I n)]) x.1 x.2.1 x.2.2.1 x.2.2.2) (fun x => (fun k q acc u => n.toNat - k) x.1 x.2.1 x.2.2.1 x.2.2.2) (0, i, [], .slice none 0 0) ?_ ⟨rfl, rfl, rfl, rfl, rfl, trivial⟩ ?_
 ·exact ⟨by omega, (by show (0 : Int) ≤ i; omega), (by show i ≤ _; omega), rfl, rfl, B, S.addNil⟩
 ·rintro ⟨k, q, acc, u⟩ w3 hI
  try dsimp only at hI ⊢
  obtain ⟨hk, hq0, hq1, hal, hq, B, S⟩ := hI
  iterate 2 refine w_s ?_
  refine w_g ?_
  iterate 2 refine t_m rfl ?_ rfl
  refine t_lss rfl rfl ?_ rfl
  refine t_d ?_
  refine x_s ?_
  refine w_if rfl ?_ ?_
  ·intro hlt
   have hf : n.toNat - k = (n.toNat - (k + 1)) + 1 := by omega
   rw [hf] at hq
   obtain ⟨x1, j1, ok1, hr1⟩ : ∃ x j ok, rv3 (readVI b q) = (x, j, ok) := ⟨_, _, _, rfl⟩
   have hrq : readVI b q = readV b q.toNat := by rw [readVI, if_pos hq0]
   refine w_k ?_
   refine x_s ?_
   refine w_s ?_
   refine w_block ?_
   refine w_s ?_
   refine w_g ?_
   iterate 2 refine t_m rfl ?_ rfl
   refine t_x Tryz.call140 rfl (impl_ReadVarint _ _ _ _ (by first | assumption | exact SlR.below ‹_› B) (by omega) (by omega) hr1) ?_ rfl rfl
   intro w4 x5
   have B := bx Hb B x5
   have S := S.below x5
   refine t_m rfl ?_ rfl
   iterate 3 refine t_extract rfl rfl ?_ rfl
   iterate 3 refine t_a rfl ?_ rfl
   refine t_d ?_
   refine x_s ?_
   iterate 2 refine w_s ?_
   refine w_g ?_
   refine t_m rfl ?_ rfl
   refine t_notb rfl ?_ rfl
   refine t_d ?_
   refine x_s ?_
   refine w_ifb rfl ?_ ?_
   ·intro hno
    refine w_s ?_
    refine w_g ?_
    iterate 3 refine t_a rfl ?_ rfl
    refine t_d ?_
    refine x_s ?_
    refine w_r ?_
    refine x_t ?_
    refine x_block_ret ?_
    iterate 2 refine x_t ?_
    refine x_block_ret ?_
    refine x_t ?_
    refine x_ret3 rfl rfl rfl rfl ?_
    have hno' := rv_no hr1 hno
    rw [hrq] at hno'
    rw [decA_no hno'] at hq
    rw [hd, ← hq] at hr
    cases hr
    obtain ⟨fp, hO⟩ := (S.addNil.mono X0.size).head
    exact ⟨_, fp, rfl, hO, ext_trans X0 B⟩
   ·intro hyes
    obtain ⟨hy1, hy2, hy3, hy4, hy5, hy6⟩ := rv_yes hr1 hyes
    rw [hrq] at hy1
    rw [decA_yes hy1] at hq
    refine w_k ?_
    refine x_s ?_
    refine w_s ?_
    refine w_g ?_
    iterate 2 refine t_m rfl ?_ rfl
    refine t_lit (T := intT) (l := [x1]) (css := ([x1]).map fun a => [I a]) int_flat S (fun w => bs_int1 _ w) rfl rfl rfl rfl (by simp [maxLen]) (litR_int _) ?_ rfl rfl
    intro u40 w6 x7 S
    have B := bx Hb B x7
    have hR := S.sl
    have S := S.f1
    refine t_cat int_flat e_int S hR rfl rfl rfl (by first | omega | (simp [-List.length_flatMap]; omega)) (by (simp [maxLen, -List.length_flatMap]; try omega)) ?_ rfl
    intro v41 w8 x9 S
    have B := B.trans x9
    clear hR
    have S := S.f1.tail
    refine t_a rfl ?_ rfl
    refine t_d ?_
    refine x_s ?_
    refine w_g ?_
    refine t_m rfl ?_ rfl
    refine t_a rfl ?_ rfl
    refine t_d ?_
    refine x_b ?_
    refine x_s ?_
    refine w_g ?_
    refine t_m rfl ?_ rfl
    refine t_add rfl rfl (by omega) ?_ rfl
    refine t_a rfl ?_ rfl
    refine t_d ?_
    refine x_r (X := Nat × Int × List Int × Value) (k + 1, j1, acc ++ [x1], v41) ?_ (by exact ⟨rfl, rfl, rfl, rfl, rfl, trivial⟩) (by (try dsimp only); omega)
    try dsimp only
    exact ⟨by omega, by omega, by omega, by rw [List.length_append, hal]; rfl, hq, B, S⟩
  ·intro hge
   refine w_exit ?_
   iterate 2 refine x_then_exit ?_
   refine x_block_exit ?_
   refine x_s ?_
   refine w_s ?_
   refine w_g ?_
   iterate 2 refine t_m rfl ?_ rfl
   iterate 3 refine t_a rfl ?_ rfl
   refine t_d ?_
   refine x_s ?_
   refine w_r ?_
   refine x_ret3 rfl rfl rfl rfl ?_
   have : n.toNat - k = 0 := by omega
   rw [this] at hq
   rw [hd, ← hq] at hr
   have e0 : (l0, j0, ok0) = (acc, q, true) := by rw [← hr]; simp only [decA, dec3]; congr 2; omega
   cases e0
   obtain ⟨fp, hO⟩ := (S.mono X0.size).head
   exact ⟨_, fp, rfl, hO, ext_trans X0 B⟩
theorem spec_DecodeInts (b : List UInt8) (v : Value) (i n : Int) {l0 : List Int} {j0 : Int} {ok0 : Bool} (w : World) (h : SlR byteT w v b) (hz : b.length ≤ 1048576) (hr : dec3 (decI b i n) = (l0, j0, ok0)) : Calls Tryz.prog 92 #[v, I i, I n] w fun e w' => ∃ v fp, e = .returned (.tuple #[v, I j0, .bool ok0]) ∧ SlO intT 3 w.heap.size w' v l0 fp ∧ Below w.heap.size w w' := by
 have X0 := Below.refl w.heap.size w
 refine enter Tryz.func92 rfl Tryz.ntmps92 rfl ?_
 refine w_s ?_
 refine w_g ?_
 have S := Sep.nil w
 have B := Below.refl w.heap.size w
 have Hb := Nat.le_refl w.heap.size
 iterate 3 refine t_a rfl ?_ rfl
 refine t_d ?_
 refine x_s ?_
 refine w_s ?_
 refine w_g ?_
 refine t_lit (T := intT) (css := []) (l := []) int_flat S bs_int0 rfl rfl rfl rfl (Nat.zero_le _) litR_nil ?_ rfl rfl
 intro u14 w10 x11 S
 have B := bx Hb B x11
 refine t_a rfl ?_ rfl
 refine t_d ?_
 refine x_s ?_
 iterate 2 refine w_s ?_
 refine w_g ?_
 refine t_m rfl ?_ rfl
 refine t_calls Tryz.call64 rfl (spec_l1In _ _ _ _) ?_ rfl rfl
 refine t_notb rfl ?_ rfl
 refine t_m rfl ?_ rfl
 refine t_part (t := 18) rfl ?_ ?_
 ·intro h1
  iterate 5 refine t_off rfl rfl rfl ?_ rfl
  refine t_q rfl rfl ?_ rfl
  refine t_d ?_
  refine x_s ?_
  refine w_yes rfl ?_
  refine w_s ?_
  refine w_g ?_
  refine t_m rfl ?_ rfl
  iterate 3 refine t_a rfl ?_ rfl
  refine t_d ?_
  refine x_s ?_
  refine w_r ?_
  refine x_t ?_
  refine x_ret3 rfl rfl rfl rfl ?_
  rw [decI, show inR n 0 100 = false by simpa using h1] at hr
  cases hr
  obtain ⟨fp, hO⟩ := (S.mono X0.size).head
  exact ⟨_, fp, rfl, hO, ext_trans X0 B⟩
 intro h1
 have h1' : inR n 0 100 = true := by simpa using h1
 have r1 := inR_iff.1 h1'
 refine t_on rfl rfl ?_
 refine t_m rfl ?_ rfl
 refine t_on rfl rfl ?_
 refine t_m rfl ?_ rfl
 refine t_on rfl rfl ?_
 refine t_len e_byte ‹_› rfl rfl ?_ rfl
 refine t_on rfl rfl ?_
 refine t_calls Tryz.call64 rfl (spec_l1In _ _ _ _) ?_ rfl rfl
 refine t_on rfl rfl ?_
 refine t_notb rfl ?_ rfl
 refine t_p rfl rfl ?_ rfl
 refine t_d ?_
 refine x_s ?_
 refine w_ifb rfl ?_ ?_
 ·intro h2
  refine w_s ?_
  refine w_g ?_
  refine t_m rfl ?_ rfl
  iterate 3 refine t_a rfl ?_ rfl
  refine t_d ?_
  refine x_s ?_
  refine w_r ?_
  refine x_t ?_
  refine x_ret3 rfl rfl rfl rfl ?_
  rw [decI, h1', show inR i 0 b.length = false by simpa using h2] at hr
  cases hr
  obtain ⟨fp, hO⟩ := (S.mono X0.size).head
  exact ⟨_, fp, rfl, hO, ext_trans X0 B⟩
 intro h2
 have h2' : inR i 0 b.length = true := by simpa using h2
 have r2 := inR_iff.1 h2'
 have hd : decI b i n = decA b n.toNat i.toNat [] := by rw [decI, h1', h2']; rfl
 refine w_k ?_
 refine x_s ?_
 iterate 2 refine w_s ?_
 refine w_g ?_
 refine t_a rfl ?_ rfl
 refine t_d ?_
 refine x_s ?_
 refine w_block ?_
 refine w_loop (X := Nat × Int × List Int × Value) (fun x wq => (fun k q acc u => k ≤ n.toNat ∧ (0 : Int) ≤ q ∧ q ≤ b.length ∧ acc.length = k ∧ decA b (n.toNat - k) q.toNat acc = decA b n.toNat i.toNat [] ∧ Below w.heap.size w wq ∧ Sep w.heap.size wq [slO intT 3 u acc]) x.1 x.2.1 x.2.2.1 x.2.2.2) (fun x => (fun k q acc u => [(10, I ((k : Int))), (1, I q), (9, u), (0, v), (2, I n)]) x.1 x.2.1 x.2.2.1 x.2.2.2) (fun x => (fun k q acc u => n.toNat - k) x.1 x.2.1 x.2.2.1 x.2.2.2) (0, i, [], u14) ?_ ⟨rfl, rfl, rfl, rfl, rfl, trivial⟩ ?_
 ·exact ⟨by omega, (by show (0 : Int) ≤ i; omega), (by show i ≤ _; omega), rfl, rfl, B, S⟩
 ·rintro ⟨k, q, acc, u⟩ w12 hI
  try dsimp only at hI ⊢
  obtain ⟨hk, hq0, hq1, hal, hq, B, S⟩ := hI
  iterate 2 refine w_s ?_
  refine w_g ?_
  iterate 2 refine t_m rfl ?_ rfl
  refine t_lss rfl rfl ?_ rfl
  refine t_d ?_
  refine x_s ?_
  refine w_if rfl ?_ ?_
  ·intro hlt
   have hf : n.toNat - k = (n.toNat - (k + 1)) + 1 := by omega
   rw [hf] at hq
   obtain ⟨x1, j1, ok1, hr1⟩ : ∃ x j ok, rv3 (readVI b q) = (x, j, ok) := ⟨_, _, _, rfl⟩
   have hrq : readVI b q = readV b q.toNat := by rw [readVI, if_pos hq0]
   refine w_k ?_
   refine x_s ?_
   refine w_s ?_
   refine w_block ?_
   refine w_s ?_
   refine w_g ?_
   iterate 2 refine t_m rfl ?_ rfl
   refine t_x Tryz.call142 rfl (spec_ReadVarint _ _ _ _ (by first | assumption | exact SlR.below ‹_› B) (by omega) (by omega) hr1) ?_ rfl rfl
   intro w13 x14
   have B := bx Hb B x14
   have S := S.below x14
   refine t_m rfl ?_ rfl
   iterate 3 refine t_extract rfl rfl ?_ rfl
   iterate 3 refine t_a rfl ?_ rfl
   refine t_d ?_
   refine x_s ?_
   iterate 2 refine w_s ?_
   refine w_g ?_
   refine t_m rfl ?_ rfl
   refine t_notb rfl ?_ rfl
   refine t_d ?_
   refine x_s ?_
   refine w_ifb rfl ?_ ?_
   ·intro hno
    refine w_s ?_
    refine w_g ?_
    refine t_lit (T := intT) (css := []) (l := []) int_flat S bs_int0 rfl rfl rfl rfl (Nat.zero_le _) litR_nil ?_ rfl rfl
    intro u40 w15 x16 S
    have B := bx Hb B x16
    iterate 3 refine t_a rfl ?_ rfl
    refine t_d ?_
    refine x_s ?_
    refine w_r ?_
    refine x_t ?_
    refine x_block_ret ?_
    iterate 2 refine x_t ?_
    refine x_block_ret ?_
    refine x_t ?_
    refine x_ret3 rfl rfl rfl rfl ?_
    have hno' := rv_no hr1 hno
    rw [hrq] at hno'
    rw [decA_no hno'] at hq
    rw [hd, ← hq] at hr
    cases hr
    obtain ⟨fp, hO⟩ := (S.mono X0.size).head
    exact ⟨_, fp, rfl, hO, ext_trans X0 B⟩
   ·intro hyes
    obtain ⟨hy1, hy2, hy3, hy4, hy5, hy6⟩ := rv_yes hr1 hyes
    rw [hrq] at hy1
    rw [decA_yes hy1] at hq
    refine w_k ?_
    refine x_s ?_
    refine w_s ?_
    refine w_g ?_
    iterate 2 refine t_m rfl ?_ rfl
    refine t_lit (T := intT) (l := [x1]) (css := ([x1]).map fun a => [I a]) int_flat S (fun w => bs_int1 _ w) rfl rfl rfl rfl (by simp [maxLen]) (litR_int _) ?_ rfl rfl
    intro u43 w17 x18 S
    have B := bx Hb B x18
    have hR := S.sl
    have S := S.f1
    refine t_cat int_flat e_int S hR rfl rfl rfl (by first | omega | (simp [-List.length_flatMap]; omega)) (by (simp [maxLen, -List.length_flatMap]; try omega)) ?_ rfl
    intro v44 w19 x20 S
    have B := B.trans x20
    clear hR
    have S := S.f1.tail
    refine t_a rfl ?_ rfl
    refine t_d ?_
    refine x_s ?_
    refine w_g ?_
    refine t_m rfl ?_ rfl
    refine t_a rfl ?_ rfl
    refine t_d ?_
    refine x_b ?_
    refine x_s ?_
    refine w_g ?_
    refine t_m rfl ?_ rfl
    refine t_add rfl rfl (by omega) ?_ rfl
    refine t_a rfl ?_ rfl
    refine t_d ?_
    refine x_r (X := Nat × Int × List Int × Value) (k + 1, j1, acc ++ [x1], v44) ?_ (by exact ⟨rfl, rfl, rfl, rfl, rfl, trivial⟩) (by (try dsimp only); omega)
    try dsimp only
    exact ⟨by omega, by omega, by omega, by rw [List.length_append, hal]; rfl, hq, B, S⟩
  ·intro hge
   refine w_exit ?_
   iterate 2 refine x_then_exit ?_
   refine x_block_exit ?_
   refine x_s ?_
   refine w_s ?_
   refine w_g ?_
   iterate 2 refine t_m rfl ?_ rfl
   iterate 3 refine t_a rfl ?_ rfl
   refine t_d ?_
   refine x_s ?_
   refine w_r ?_
   refine x_ret3 rfl rfl rfl rfl ?_
   have : n.toNat - k = 0 := by omega
   rw [this] at hq
   rw [hd, ← hq] at hr
   have e0 : (l0, j0, ok0) = (acc, q, true) := by rw [← hr]; simp only [decA, dec3]; congr 2; omega
   cases e0
   obtain ⟨fp, hO⟩ := (S.mono X0.size).head
   exact ⟨_, fp, rfl, hO, ext_trans X0 B⟩
end Go.Proofs.YtdaecknfahgddaaGreat
namespace Go.Proofs.YtdaecknfahgddaaGreat
open Go.RowKit
set_option linter.unusedVariables false
set_option maxRecDepth 20000
/-- The cursor's bytes can be read as_ long as_ nothing below b changes. -/
def CodeK (b : Nat) (w : World) (v : Value) (n : Nat) : Prop := n ≤ 1048576 ∧ ∃ code : List UInt8, code.length = n ∧ ∀ w', Below b w w' → SlR byteT w' v code
theorem CodeK.below {b : Nat} {w w' : World} {v : Value} {n : Nat} (K : CodeK b w v n) (B : Below b w w') : CodeK b w' v n := by
  obtain ⟨h, code, h1, h2⟩ := K
  exact ⟨h, code, h1, fun w'' x => h2 w'' (B.trans x)⟩
theorem CodeK.of {w : World} {v : Value} {code : List UInt8} (h : SlR byteT w v code) (hz : code.length ≤ 1048576) : CodeK w.heap.size w v code.length := ⟨hz, code, rfl, fun w' x => h.below x⟩
section
variable {P : Program} {n : Nat} {ops : Array Oper} {Q : Exit → Act → World → Prop} {L : Frm} {w : World} {m : Md} {r : IT} {d : Nat} {ty : TypeId} {pos : String} {af : Array Edge}
theorem t_nilc {x : Operand} {p : Addr} (hx : ev L x = some (.pointer (some p))) (k : WT P n ops Q r ((d, .pointer (some p)) :: L) w) (hn : Nat.blt d n = true) : WT P n ops Q (.st m ⟨some d, .nilCheck x, ty, pos, af, none⟩ r) L w :=
  t_read (fun e ha _ _ _ w' _ => by simp [execOp, ha.ev hx]) k hn
end
theorem fb_cur_0 : fieldB Tryz.prog 115 0 = some 0 := by kernel_rfl
theorem fb_cur_1 : fieldB Tryz.prog 115 1 = some 1 := by kernel_rfl
theorem fb_cur_2 : fieldB Tryz.prog 115 2 = some 2 := by kernel_rfl
theorem b_cur (A : Option Addr) (n c : Nat) (h : Int) (w : World) : (Instr.build 115 #[(0, .slice A n c), (2, I h)]).run Tryz.prog w = .ok (.agg #[.slice A n c, I 0, I h]) w := by kernel_rfl
theorem spec_l1Byte {b n c : Nat} {w : World} {v : Value} {os : List Ow} (S : Sep b w (curO v n c 115 :: os)) (K : CodeK b w v n) : Calls Tryz.prog 118 #[.pointer (some ⟨c, 0, none⟩)] w fun e w' => ∃ x : Int, e = .returned (I x) ∧ (0 ≤ x ∧ x < 256) ∧ Sep b w' (curO v n c 115 :: os) ∧ Below b w w' := by
 obtain ⟨hz, code, rfl, hK⟩ := K
 obtain ⟨i, h, hi0, hin, S⟩ := S.curOpen
 have X0 := Below.refl w.heap.size w
 refine enter Tryz.func118 rfl Tryz.ntmps118 rfl ?_
 have B := Below.refl b w
 have Hb := S.base
 refine w_s ?_
 refine w_g ?_
 refine t_a rfl ?_ rfl
 refine t_d ?_
 refine x_s ?_
 refine w_s ?_
 refine w_g ?_
 iterate 2 refine t_m rfl ?_ rfl
 refine t_nilc rfl ?_ rfl
 refine t_y fb_cur_2 rfl rfl ?_ rfl
 refine t_bx1 S.box ab_int rfl rfl ?_ rfl
 refine t_mulw rfl rfl ?_ rfl
 refine t_addw rfl rfl ?_ rfl
 refine t_nilc rfl ?_ rfl
 refine t_y fb_cur_2 rfl rfl ?_ rfl
 refine t_st1 S sb_int rfl rfl rfl rfl rfl ?_
 intro w1 b2 S
 have B := B.trans b2
 refine t_d ?_
 refine x_s ?_
 refine w_s ?_
 refine w_draw (.st .take 0 (.st .take 1 (.st .take 2 (.st .take 3 (.st .take 4 (.st .take 5 (.st .take 6 (.st .take 7 (.st .take 8 (.st .take 9 (.st .take 10 (.st .take 11 (.st .take 12 .done))))))))))))) mixed (by kernel_rfl) ?_
 intro w3 x4
 have B := bx Hb B x4
 have S := S.below x4
 refine t_m rfl ?_ rfl
 refine t_nilc rfl ?_ rfl
 refine t_y fb_cur_2 rfl rfl ?_ rfl
 refine t_bx1 S.box ab_int rfl rfl ?_ rfl
 refine t_shrA rfl rfl (by decide) ?_ rfl
 intro z17
 refine t_m rfl ?_ rfl
 refine t_nilc rfl ?_ rfl
 refine t_y fb_cur_2 rfl rfl ?_ rfl
 refine t_bx1 S.box ab_int rfl rfl ?_ rfl
 refine t_shrA rfl rfl (by decide) ?_ rfl
 intro z22
 refine t_bitA (by simp) rfl rfl ?_ rfl
 intro z23
 refine t_and255 rfl rfl ?_ rfl
 refine t_a rfl ?_ rfl
 refine t_d' ?_
 refine x_s ?_
 iterate 2 refine w_s ?_
 refine w_draw (.st .take 0 (.st .take 1 (.st .take 2 (.st .take 3 (.st .take 4 (.st .take 5 (.st .take 6 (.st .take 7 (.st .take 8 (.st .take 9 .done)))))))))) mixed (by kernel_rfl) ?_
 intro w5 x6
 have B := bx Hb B x6
 have S := S.below x6
 refine t_m rfl ?_ rfl
 refine t_nilc rfl ?_ rfl
 refine t_y fb_cur_1 rfl rfl ?_ rfl
 refine t_bx1 S.box ab_int rfl rfl ?_ rfl
 refine t_m rfl ?_ rfl
 refine t_nilc rfl ?_ rfl
 refine t_y fb_cur_0 rfl rfl ?_ rfl
 refine t_bx1 S.box ab_s_byte rfl rfl ?_ rfl
 refine t_len e_byte (hK _ B) rfl rfl ?_ rfl
 refine t_lss rfl rfl ?_ rfl
 refine t_d' ?_
 refine x_s ?_
 refine w_if rfl ?_ ?_
 ·intro hc
  refine w_s ?_
  refine w_draw (.st .take 0 (.st .take 1 (.st .take 2 (.st .take 3 (.st .take 4 (.st .take 5 (.st .take 6 (.st .take 7 (.st .take 8 (.st .take 9 (.st .take 10 (.st .take 11 (.st .take 12 (.st .take 13 (.st .take 14 .done))))))))))))))) mixed (by kernel_rfl) ?_
  intro w7 x8
  have B := bx Hb B x8
  have S := S.below x8
  iterate 2 refine t_m rfl ?_ rfl
  refine t_nilc rfl ?_ rfl
  refine t_y fb_cur_0 rfl rfl ?_ rfl
  refine t_bx1 S.box ab_s_byte rfl rfl ?_ rfl
  refine t_m rfl ?_ rfl
  refine t_nilc rfl ?_ rfl
  refine t_y fb_cur_1 rfl rfl ?_ rfl
  refine t_bx1 S.box ab_int rfl rfl ?_ rfl
  obtain ⟨e44, he44⟩ : ∃ e, (code)[i.toNat]? = some e := getx (by omega)
  refine t_idx e_byte (k := i.toNat) (hK _ B) he44 (Below.refl _ _) rfl rfl (by first | rfl | omega) ?_ rfl
  intro p44 hp44
  refine t_ldu ‹_› ab_byte (Below.refl _ _) rfl ?_ rfl
  refine t_conv8 Tryz.underlying5 Tryz.underlying3 rfl ?_ rfl
  refine t_addw rfl rfl ?_ rfl
  refine t_and255 rfl rfl ?_ rfl
  refine t_a rfl ?_ rfl
  refine t_d' ?_
  refine x_s ?_
  refine w_g ?_
  iterate 2 refine t_m rfl ?_ rfl
  refine t_nilc rfl ?_ rfl
  refine t_y fb_cur_1 rfl rfl ?_ rfl
  refine t_bx1 S.box ab_int rfl rfl ?_ rfl
  refine t_add rfl rfl (by omega) ?_ rfl
  refine t_nilc rfl ?_ rfl
  refine t_y fb_cur_1 rfl rfl ?_ rfl
  refine t_st1 S sb_int rfl rfl rfl rfl rfl ?_
  intro w9 b10 S
  have B := B.trans b10
  refine t_d ?_
  refine x_s ?_
  refine w_s ?_
  refine w_g ?_
  refine t_m rfl ?_ rfl
  refine t_a rfl ?_ rfl
  refine t_d ?_
  refine x_s ?_
  refine w_r ?_
  refine x_ret1 rfl rfl ?_
  exact ⟨_, rfl, ⟨by omega, by omega⟩, S.curShut (by omega) (by omega), B⟩
 ·intro hc
  refine w_k ?_
  refine x_s ?_
  refine w_s ?_
  refine w_g ?_
  refine t_m rfl ?_ rfl
  refine t_a rfl ?_ rfl
  refine t_d ?_
  refine x_s ?_
  refine w_r ?_
  refine x_ret1 rfl rfl ?_
  exact ⟨_, rfl, ⟨by omega, by omega⟩, S.curShut (by omega) (by omega), B⟩
theorem spec_l1Below {b n c : Nat} {w : World} {v : Value} {os : List Ow} (m : Int) (S : Sep b w (curO v n c 115 :: os)) (K : CodeK b w v n) : Calls Tryz.prog 57 #[.pointer (some ⟨c, 0, none⟩), I m] w fun e w' => ∃ x : Int, e = .returned (I x) ∧ (0 ≤ x ∧ (x < m ∨ x = 0)) ∧ Sep b w' (curO v n c 115 :: os) ∧ Below b w w' := by
 have X0 := Below.refl w.heap.size w
 refine enter Tryz.func57 rfl Tryz.ntmps57 rfl ?_
 have B := Below.refl b w
 have Hb := S.base
 refine w_s ?_
 refine w_g ?_
 refine t_a rfl ?_ rfl
 refine t_d ?_
 refine x_s ?_
 iterate 2 refine w_s ?_
 refine w_g ?_
 refine t_m rfl ?_ rfl
 refine t_leq rfl rfl ?_ rfl
 refine t_d ?_
 refine x_s ?_
 refine w_if rfl ?_ ?_
 ·intro hc
  refine w_s ?_
  refine w_g ?_
  refine t_a rfl ?_ rfl
  refine t_d ?_
  refine x_s ?_
  refine w_r ?_
  refine x_t ?_
  refine x_ret1 rfl rfl ?_
  exact ⟨_, rfl, ⟨by omega, by omega⟩, S, B⟩
 ·intro hc
  refine w_k ?_
  refine x_s ?_
  iterate 2 refine w_s ?_
  refine w_g ?_
  refine t_m rfl ?_ rfl
  refine t_leq rfl rfl ?_ rfl
  refine t_d ?_
  refine x_s ?_
  refine w_if rfl ?_ ?_
  ·intro hc2
   refine w_s ?_
   refine w_g ?_
   refine t_m rfl ?_ rfl
   refine t_f Tryz.call118 rfl (spec_l1Byte S (K.below B)) ?_ rfl
   rintro e w11 ⟨y13, rfl, hf13, S, x12⟩
   refine ⟨_, rfl, ?_⟩
   have B := B.trans x12
   refine t_m rfl ?_ rfl
   refine t_rem rfl rfl (by omega) ?_ rfl
   refine t_a rfl ?_ rfl
   refine t_d ?_
   refine x_s ?_
   refine w_r ?_
   refine x_t ?_
   refine x_ret1 rfl rfl ?_
   exact ⟨_, rfl, ⟨Int.emod_nonneg _ (by omega), .inl (Int.emod_lt_of_pos _ (by omega))⟩, S, B⟩
  ·intro hc2
   refine w_k ?_
   refine x_s ?_
   refine w_s ?_
   refine w_g ?_
   refine t_m rfl ?_ rfl
   refine t_f Tryz.call118 rfl (spec_l1Byte S (K.below B)) ?_ rfl
   rintro e w13 ⟨y17, rfl, hf17, S, x14⟩
   refine ⟨_, rfl, ?_⟩
   have B := B.trans x14
   refine t_a rfl ?_ rfl
   refine t_d ?_
   refine x_s ?_
   refine w_s ?_
   refine w_g ?_
   refine t_m rfl ?_ rfl
   refine t_f Tryz.call118 rfl (spec_l1Byte S (K.below B)) ?_ rfl
   rintro e w15 ⟨y19, rfl, hf19, S, x16⟩
   refine ⟨_, rfl, ?_⟩
   have B := B.trans x16
   refine t_a rfl ?_ rfl
   refine t_d ?_
   refine x_s ?_
   refine w_s ?_
   refine w_g ?_
   refine t_m rfl ?_ rfl
   refine t_f Tryz.call118 rfl (spec_l1Byte S (K.below B)) ?_ rfl
   rintro e w17 ⟨y21, rfl, hf21, S, x18⟩
   refine ⟨_, rfl, ?_⟩
   have B := B.trans x18
   refine t_a rfl ?_ rfl
   refine t_d ?_
   refine x_s ?_
   refine w_s ?_
   refine w_g ?_
   refine t_m rfl ?_ rfl
   refine t_mul rfl rfl (by omega) ?_ rfl
   refine t_m rfl ?_ rfl
   refine t_mul rfl rfl (by omega) ?_ rfl
   refine t_add rfl rfl (by omega) ?_ rfl
   refine t_m rfl ?_ rfl
   refine t_add rfl rfl (by omega) ?_ rfl
   refine t_m rfl ?_ rfl
   refine t_rem rfl rfl (by omega) ?_ rfl
   refine t_a rfl ?_ rfl
   refine t_d ?_
   refine x_s ?_
   refine w_r ?_
   refine x_ret1 rfl rfl ?_
   exact ⟨_, rfl, ⟨Int.emod_nonneg _ (by omega), .inl (Int.emod_lt_of_pos _ (by omega))⟩, S, B⟩
theorem spec_l1Once {b n c : Nat} {w : World} {v : Value} {os : List Ow} (m : Int) (S : Sep b w (curO v n c 115 :: os)) (K : CodeK b w v n) : Calls Tryz.prog 58 #[.pointer (some ⟨c, 0, none⟩), I m] w fun e w' => ∃ x : Int, e = .returned (.bool (decide (x = 0))) ∧ True ∧ Sep b w' (curO v n c 115 :: os) ∧ Below b w w' := by
  have X0 := Below.refl w.heap.size w
  refine enter Tryz.func58 rfl Tryz.ntmps58 rfl ?_
  have B := Below.refl b w
  have Hb := S.base
  refine w_s ?_
  refine w_g ?_
  refine t_a rfl ?_ rfl
  refine t_d ?_
  refine x_s ?_
  refine w_s ?_
  refine w_g ?_
  iterate 2 refine t_m rfl ?_ rfl
  refine t_f Tryz.call57 rfl (spec_l1Below m S (K.below B)) ?_ rfl
  rintro e w19 ⟨y7, rfl, hf7, S, x20⟩
  refine ⟨_, rfl, ?_⟩
  have B := B.trans x20
  refine t_eql rfl rfl ?_ rfl
  refine t_a rfl ?_ rfl
  refine t_d ?_
  refine x_s ?_
  refine w_r ?_
  refine x_ret1 rfl rfl ?_
  exact ⟨_, rfl, trivial, S, B⟩
theorem spec_l1Int {b n c : Nat} {w : World} {v u : Value} {l : List Int} {os : List Ow} (S : Sep b w (curO v n c 115 :: slO intT 3 u l :: os)) (K : CodeK b w v n) (hl : 0 < l.length) : Calls Tryz.prog 115 #[.pointer (some ⟨c, 0, none⟩), u] w fun e w' => ∃ x : Int, e = .returned (I x) ∧ x ∈ l ∧ Sep b w' (curO v n c 115 :: slO intT 3 u l :: os) ∧ Below b w w' := by
  have X0 := Below.refl w.heap.size w
  refine enter Tryz.func115 rfl Tryz.ntmps115 rfl ?_
  have B := Below.refl b w
  have Hb := S.base
  refine w_s ?_
  refine w_g ?_
  refine t_a rfl ?_ rfl
  refine t_d ?_
  refine x_s ?_
  refine w_s ?_
  refine w_g ?_
  iterate 3 refine t_m rfl ?_ rfl
  refine t_len e_int (S.tail.sl) rfl rfl ?_ rfl
  refine t_f Tryz.call57 rfl (spec_l1Below (l.length : Int) S (K.below B)) ?_ rfl
  rintro e w21 ⟨y9, rfl, hf9, S, x22⟩
  refine ⟨_, rfl, ?_⟩
  have B := B.trans x22
  obtain ⟨e10, he10⟩ : ∃ e, (l)[y9.toNat]? = some e := getx (by omega)
  refine t_idx e_int (k := y9.toNat) (S.tail.sl) he10 (Below.refl _ _) rfl rfl (by first | rfl | omega) ?_ rfl
  intro p10 hp10
  refine t_ldi ‹_› ab_int (Below.refl _ _) rfl ?_ rfl
  refine t_a rfl ?_ rfl
  refine t_d ?_
  refine x_s ?_
  refine w_r ?_
  refine x_ret1 rfl rfl ?_
  exact ⟨_, rfl, List.mem_of_getElem? he10, S, B⟩
theorem spec_l1New (code : List UInt8) (v : Value) (w : World) (h : SlR byteT w v code) (hz : code.length ≤ 1048576) : Calls Tryz.prog 53 #[v] w fun e w' => ∃ g fp, e = .returned (.pointer (some ⟨g, 0, none⟩)) ∧ (curO v code.length g 115).P w.heap.size w' fp ∧ Ext w w' := by
 have X0 := Below.refl w.heap.size w
 refine enter Tryz.func53 rfl Tryz.ntmps53 rfl ?_
 refine w_s ?_
 refine w_g ?_
 have S := Sep.nil w
 have B := Below.refl w.heap.size w
 have Hb := Nat.le_refl w.heap.size
 refine t_a rfl ?_ rfl
 refine t_d ?_
 refine x_s ?_
 refine w_s ?_
 refine w_g ?_
 refine t_m rfl ?_ rfl
 refine t_len e_byte ‹_› rfl rfl ?_ rfl
 refine t_addw rfl rfl ?_ rfl
 refine t_a rfl ?_ rfl
 refine t_d ?_
 refine x_s ?_
 iterate 2 refine w_s ?_
 refine w_g ?_
 refine t_a rfl ?_ rfl
 refine t_d ?_
 refine x_s ?_
 refine w_block ?_
 refine w_loop (X := Nat × Int) (fun x wq => (fun i h => i ≤ code.length ∧ Below w.heap.size w wq ∧ Sep w.heap.size wq []) x.1 x.2) (fun x => (fun i h => [(4, I ((i : Int))), (3, I h), (0, v), (2, .pointer none)]) x.1 x.2) (fun x => (fun i h => code.length - i) x.1 x.2) (0, _) ?_ ⟨rfl, rfl, rfl, rfl, trivial⟩ ?_
 ·exact ⟨by omega, B, S⟩
 rintro ⟨i, h⟩ w23 hI
 try dsimp only at hI ⊢
 ·obtain ⟨hi, B, S⟩ := hI
  iterate 2 refine w_s ?_
  refine w_g ?_
  iterate 2 refine t_m rfl ?_ rfl
  refine t_len e_byte ‹_› rfl rfl ?_ rfl
  refine t_lss rfl rfl ?_ rfl
  refine t_m rfl ?_ rfl
  refine t_partp (t := 12) rfl ?_ ?_
  ·intro hp
   refine t_on rfl rfl ?_
   refine t_m rfl ?_ rfl
   refine t_on rfl rfl ?_
   refine t_lss rfl rfl ?_ rfl
   refine t_q rfl rfl ?_ rfl
   refine t_d ?_
   refine x_s ?_
   refine w_if rfl ?_ ?_
   ·intro hc
    refine w_k ?_
    refine x_s ?_
    refine w_s ?_
    refine w_block ?_
    refine w_g ?_
    refine t_m rfl ?_ rfl
    refine t_mulw rfl rfl ?_ rfl
    iterate 2 refine t_m rfl ?_ rfl
    obtain ⟨e22, he22⟩ : ∃ e, (code)[i]? = some e := getx (by omega)
    refine t_idx e_byte (k := i) ‹_› he22 B rfl rfl (by first | rfl | omega) ?_ rfl
    intro p22 hp22
    refine t_ldu ‹_› ab_byte B rfl ?_ rfl
    refine t_conv8 Tryz.underlying5 Tryz.underlying3 rfl ?_ rfl
    iterate 2 refine t_addw rfl rfl ?_ rfl
    refine t_bitA (by simp) rfl rfl ?_ rfl
    intro z27
    refine t_a rfl ?_ rfl
    refine t_d ?_
    refine x_b ?_
    refine x_s ?_
    refine w_g ?_
    refine t_m rfl ?_ rfl
    refine t_add rfl rfl (by omega) ?_ rfl
    refine t_a rfl ?_ rfl
    refine t_d ?_
    refine x_r (X := Nat × Int) (i + 1, z27) ?_ (by exact ⟨rfl, rfl, rfl, rfl, trivial⟩) (by (try dsimp only); omega)
    try dsimp only
    ·exact ⟨by omega, B, S⟩
   ·intro hc
    refine w_exit ?_
    iterate 2 refine x_then_exit ?_
    refine x_block_exit ?_
    refine x_s ?_
    refine w_s ?_
    refine w_g ?_
    iterate 2 refine t_m rfl ?_ rfl
    obtain ⟨Av, cv, rfl, _⟩ := SlR.form ‹_›
    refine t_g (fun w => b_cur _ _ _ _ w) rfl ?_ rfl
    refine t_boxo S rfl rfl ?_ rfl rfl
    intro g31 w24 x25 S
    have B := bx Hb B x25
    refine t_a rfl ?_ rfl
    refine t_d ?_
    refine x_s ?_
    refine w_r ?_
    refine x_ret1 rfl rfl ?_
    have S := S.curShut (n := code.length) (by omega) (by omega)
    obtain ⟨fp, hO⟩ := (S.mono X0.size).head
    exact ⟨_, fp, rfl, hO, ext_trans X0 B⟩
  ·intro hp
   iterate 2 refine t_off rfl rfl rfl ?_ rfl
   refine t_p rfl rfl ?_ rfl
   refine t_d ?_
   refine x_s ?_
   refine w_no rfl ?_
   refine w_exit ?_
   iterate 2 refine x_then_exit ?_
   refine x_block_exit ?_
   refine x_s ?_
   refine w_s ?_
   refine w_g ?_
   iterate 2 refine t_m rfl ?_ rfl
   obtain ⟨Av, cv, rfl, _⟩ := SlR.form ‹_›
   refine t_g (fun w => b_cur _ _ _ _ w) rfl ?_ rfl
   refine t_boxo S rfl rfl ?_ rfl rfl
   intro g31 w26 x27 S
   have B := bx Hb B x27
   refine t_a rfl ?_ rfl
   refine t_d ?_
   refine x_s ?_
   refine w_r ?_
   refine x_ret1 rfl rfl ?_
   have S := S.curShut (n := code.length) (by omega) (by omega)
   obtain ⟨fp, hO⟩ := (S.mono X0.size).head
   exact ⟨_, fp, rfl, hO, ext_trans X0 B⟩
end Go.Proofs.YtdaecknfahgddaaGreat
namespace Go.Proofs.YtdaecknfahgddaaGreat
open Go.RowKit
set_option linter.unusedVariables false
/-- A link ends at an interface of an AS. -/
def ends (l : Lnk) (r d : Int) : Bool := (l.a == r && l.ai == d) || (l.b == r && l.bi == d)
/-- The place of the first link that does, -1 if there is none. -/
def findL (l : List Lnk) (r d : Int) : Option Nat := l.findIdx? fun x => ends x r d
def idxI (o : Option Nat) : Int := match o with
  | none => -1
  | some i => i
theorem impl_ends (l : Lnk) (r d : Int) (w : World) : Calls Tryz.prog 171 #[.agg #[I l.a, I l.ai, I l.b, I l.bi, I l.kind], I r, I d] w fun e w' => e = .returned (.bool (ends l r d)) ∧ Below w.heap.size w w' := by
  obtain ⟨q, Hq⟩ : ∃ q, Hid (q = ends l r d) := ⟨_, rfl⟩
  rw [← Hq.out]
  cases h1 : (l.a == r) <;> cases h2 : (l.ai == d) <;> cases h3 : (l.b == r) <;> cases h4 : (l.bi == d)
  all_goals
    go_enter Tryz.func171, Tryz.ntmps171
    go_wp2
    go_ret
    exact ⟨by rw [Hq.out]; simp [ends, h1, h2, h3, h4], ext_alloc1 _ _⟩
theorem spec_ends (l : Lnk) (r d : Int) (w : World) : Calls Tryz.prog 172 #[.agg #[I l.a, I l.ai, I l.b, I l.bi, I l.kind], I r, I d] w fun e w' => e = .returned (.bool (ends l r d)) ∧ Below w.heap.size w w' := by
  obtain ⟨q, Hq⟩ : ∃ q, Hid (q = ends l r d) := ⟨_, rfl⟩
  rw [← Hq.out]
  cases h1 : (l.a == r) <;> cases h2 : (l.ai == d) <;> cases h3 : (l.b == r) <;> cases h4 : (l.bi == d)
  all_goals
    go_enter Tryz.func172, Tryz.ntmps172
    go_wp2
    go_ret
    exact ⟨by rw [Hq.out]; simp [ends, h1, h2, h3, h4], ext_alloc1 _ _⟩
theorem findL_step {l : List Lnk} {r d : Int} {k : Nat} {x : Lnk} (h : (l.take k).all (fun y => !ends y r d) = true) (hx : l[k]? = some x) (hf : ends x r d = false) : (l.take (k + 1)).all (fun y => !ends y r d) = true := by
  rw [take_succ hx, List.all_append, h]; simp [hf]
theorem findL_hit {l : List Lnk} {r d : Int} {k : Nat} {x : Lnk} (h : (l.take k).all (fun y => !ends y r d) = true) (hx : l[k]? = some x) (hf : ends x r d = true) : findL l r d = some k := by
  unfold findL
  rw [List.findIdx?_eq_some_iff_getElem]
  obtain ⟨hlt, rfl⟩ := List.getElem?_eq_some_iff.1 hx
  refine ⟨hlt, by simpa using hf, fun j hj => ?_⟩
  rw [List.all_eq_true] at h
  have := h (l[j]'(by omega)) (List.mem_take_iff_getElem.2 ⟨j, by omega, rfl⟩)
  simpa using this
theorem findL_none {l : List Lnk} {r d : Int} (h : l.all (fun y => !ends y r d) = true) : findL l r d = none := by
  unfold findL
  rw [List.findIdx?_eq_none_iff]
  intro x hx
  rw [List.all_eq_true] at h
  simpa using h x hx
theorem findL_at {l : List Lnk} {r d : Int} {k : Nat} (h : findL l r d = some k) : ∃ x, l[k]? = some x ∧ ends x r d = true := by
  unfold findL at h
  rw [List.findIdx?_eq_some_iff_getElem] at h
  obtain ⟨hlt, h1, _⟩ := h
  exact ⟨_, List.getElem?_eq_getElem hlt, h1⟩
theorem impl_LinkIndex (t : Topo) (cs : List Value) (r d : Int) (w : World) (h : topoT.R w cs t) (hz : sz_topo t ≤ 1048576) : Calls Tryz.prog 158 #[.agg cs.toArray, I r, I d] w fun e w' => e = .returned (I (idxI (findL t.links r d))) ∧ Below w.heap.size w w' := by
  obtain ⟨A0, cA0, A1, cA1, rfl, ⟨_, _⟩, ⟨h, _⟩⟩ := topo_form h
  obtain ⟨n, H⟩ : ∃ n, Hid (n = t.links.length) := ⟨_, rfl⟩
  have hn : n ≤ 1048576 := by rw [H.out]; unfold sz_topo at hz; omega
  obtain ⟨y, Hy⟩ : ∃ y, Hid (y = findL t.links r d) := ⟨_, rfl⟩
  rw [← Hy.out]
  clear hz
  rw [← H.out] at h ⊢
  go_enter Tryz.func158, Tryz.ntmps158
  go_wp2
  go_loopw [12] (fun i wr => ∃ k : Nat, k ≤ n ∧ i = I k ∧ (t.links.take k).all (fun y => !ends y r d) = true ∧ Below w.heap.size w wr) (fun i _ => n - (intOf i).toNat)
  case atStart => exact ⟨0, by omega, rfl, rfl, ext_alloc1 _ _⟩
  case round =>
    obtain ⟨k, hk, rfl, hall, hb⟩ := hrel
    have Ha := hid hall
    clear hall
    by_cases hlt : k < n
    · obtain ⟨g, o, q, x, e, hg, hxk, c0, c1, c2, c3, c4⟩ := link_at (h.below hb) (by rw [← H.out]; exact hlt)
      rw [← H.out] at e
      cases e
      go_wp2_with (fail)
      refine (impl_ends x r d _).mono ?_
      rintro e w1 ⟨rfl, hb1⟩
      cases hv : ends x r d
      · go_wp2_with (fail)
        go_roundw
        case rel => exact ⟨k + 1, by omega, by go_num, findL_step Ha.out hxk.out hv, ext_trans (ext_alloc hb _) hb1⟩
        case measure => simp [intOf]; omega
      · go_wp2_with (fail)
        go_ret
        exact ⟨by rw [Hy.out, findL_hit Ha.out hxk.out hv]; rfl, ext_trans (ext_alloc hb _) hb1⟩
    · go_wp2
      go_ret
      have hkn : k = n := by omega
      have h1 := Ha.out
      rw [List.take_of_length_le (by rw [← H.out]; omega)] at h1
      exact ⟨by rw [Hy.out, findL_none h1]; rfl, hb⟩
theorem spec_LinkIndex (t : Topo) (cs : List Value) (r d : Int) (w : World) (h : topoT.R w cs t) (hz : sz_topo t ≤ 1048576) : Calls Tryz.prog 159 #[.agg cs.toArray, I r, I d] w fun e w' => e = .returned (I (idxI (findL t.links r d))) ∧ Below w.heap.size w w' := by
  obtain ⟨A0, cA0, A1, cA1, rfl, ⟨_, _⟩, ⟨h, _⟩⟩ := topo_form h
  obtain ⟨n, H⟩ : ∃ n, Hid (n = t.links.length) := ⟨_, rfl⟩
  have hn : n ≤ 1048576 := by rw [H.out]; unfold sz_topo at hz; omega
  obtain ⟨y, Hy⟩ : ∃ y, Hid (y = findL t.links r d) := ⟨_, rfl⟩
  rw [← Hy.out]
  clear hz
  rw [← H.out] at h ⊢
  have P0 : Hid ((w.alloc (.cells #[.slice A0 t.ases.length cA0, .slice A1 n cA1] 27)).cell? ⟨w.heap.size, 1, none⟩ = some (.slice A1 n cA1)) := by show _ = _; simp
  go_enter Tryz.func159, Tryz.ntmps159
  go_wp2
  go_loopw [7] (fun i wr => ∃ k : Nat, k ≤ n ∧ i = I k ∧ (t.links.take k).all (fun y => !ends y r d) = true ∧ Below w.heap.size w wr ∧ wr.cell? ⟨w.heap.size, 1, none⟩ = some (.slice A1 n cA1)) (fun i _ => n - (intOf i).toNat)
  case atStart => exact ⟨0, by omega, rfl, rfl, ext_alloc1 _ _, P0.out⟩
  case round =>
    obtain ⟨k, hk, rfl, hall, hb, p0⟩ := hrel
    have Ha := hid hall
    clear hall P0
    by_cases hlt : k < n
    · obtain ⟨g, o, q, x, e, hg, hxk, c0, c1, c2, c3, c4⟩ := link_at (h.below hb) (by rw [← H.out]; exact hlt)
      rw [← H.out] at e
      cases e
      go_wp2_with (fail)
      refine (spec_ends x r d _).mono ?_
      rintro e w1 ⟨rfl, hb1⟩
      have p1 := ck hb1 p0
      cases hv : ends x r d
      · go_wp2_with (fail)
        go_roundw
        case rel => exact ⟨k + 1, by omega, by go_num, findL_step Ha.out hxk.out hv, ext_trans hb hb1, p1⟩
        case measure => simp [intOf]; omega
      · go_wp2_with (fail)
        go_ret
        exact ⟨by rw [Hy.out, findL_hit Ha.out hxk.out hv]; rfl, ext_trans hb hb1⟩
    · go_wp2
      go_ret
      have hkn : k = n := by omega
      have h1 := Ha.out
      rw [List.take_of_length_le (by rw [← H.out]; omega)] at h1
      exact ⟨by rw [Hy.out, findL_none h1]; rfl, hb⟩
/-- What is at the other end of an interface. -/
def ifKind (t : Topo) (r d : Int) : Int :=
  if d = 0 then 5 else match (findL t.links r d).bind (t.links[·]?) with
    | none => 0
    | some l => if l.kind = 1 then 1 else if l.kind = 3 then 4 else if l.kind = 2 then (if l.a = r ∧ l.ai = d then 2 else 3) else 0
theorem kind4 (k : Int) : k = 1 ∨ k = 3 ∨ k = 2 ∨ ((k == 1) = false ∧ (k == 3) = false ∧ (k == 2) = false ∧ (k != 2) = true) := by
  simp only [beq_eq_false_iff_ne, bne_iff_ne, ne_eq]; omega
set_option maxRecDepth 100000 in
theorem spec_ifKind (t : Topo) (cs : List Value) (r d : Int) (w : World) (h : topoT.R w cs t) (hz : sz_topo t ≤ 1048576) : Calls Tryz.prog 168 #[.agg cs.toArray, I r, I d] w fun e w' => e = .returned (I (ifKind t r d)) ∧ Below w.heap.size w w' := by
 obtain ⟨A0, cA0, A1, cA1, rfl, ⟨_, _⟩, ⟨hl, _⟩⟩ := topo_form h
 have hb0 : Below w.heap.size w (w.alloc (.cells #[.slice A0 t.ases.length cA0, .slice A1 t.links.length cA1] 27)) := ext_alloc1 _ _
 obtain ⟨y, Hy⟩ : ∃ y, Hid (y = ifKind t r d) := ⟨_, rfl⟩
 rw [← Hy.out]
 have hn : t.links.length ≤ 1048576 := by unfold sz_topo at hz; omega
 by_cases hd : d = 0
 ·have HY : Hid (y = 5) := by show y = _; rw [Hy.out]; simp [ifKind, hd]
  subst hd
  go_enter Tryz.func168, Tryz.ntmps168
  go_wp2
  go_ret
  exact ⟨by rw [HY.out]; rfl, hb0⟩
 ·have hdb : (d == 0) = false := by simpa using hd
  have HC := hid (spec_LinkIndex t _ r d _ (topoT.kp h hb0) hz)
  cases hf : findL t.links r d with
  | none =>
   have HY : Hid (y = 0) := by show y = _; rw [Hy.out]; simp [ifKind, hd, hf]
   rw [hf] at HC
   change Hid (Calls _ _ _ _ fun e w' => e = .returned (I (-1)) ∧ _) at HC
   clear hf hd
   go_enter Tryz.func168, Tryz.ntmps168
   go_wp2_with (fail)
   refine HC.out.mono ?_
   rintro e w1 ⟨rfl, hb1⟩
   go_wp2_with (fail)
   go_ret
   exact ⟨by rw [HY.out]; rfl, ext_trans hb0 hb1⟩
  | some i =>
   obtain ⟨x, hxi, hxe⟩ := findL_at hf
   have hi : i < t.links.length := (List.getElem?_eq_some_iff.1 hxi).1
   have HY : Hid (y = if x.kind = 1 then 1 else if x.kind = 3 then 4 else if x.kind = 2 then (if x.a = r ∧ x.ai = d then 2 else 3) else 0) := by
    show y = _; rw [Hy.out]; simp [ifKind, hd, hf, hxi]
   rw [hf] at HC
   change Hid (Calls _ _ _ _ fun e w' => e = .returned (I (i : Int)) ∧ _) at HC
   obtain ⟨g, o, q, x', e, hg, hxk, c0, c1, c2, c3, c4⟩ := link_at hl hi
   obtain rfl : x' = x := by have := hxk.out; rw [this] at hxi; injection hxi
   cases e
   have hi0 : ¬ (i : Int) < 0 := by omega
   clear hf hd hxe hxi Hy hl
   go_enter Tryz.func168, Tryz.ntmps168
   go_wp2_with (fail)
   refine HC.out.mono ?_
   rintro e w1 ⟨rfl, hb1⟩
   have x1 := ext_trans hb0 hb1
   have p1 : w1.cell? ⟨w.heap.size, 1, none⟩ = some (.slice (some ⟨g, o, none⟩) t.links.length cA1) := ck hb1 (by simp)
   replace c0 := ck x1 c0
   replace c1 := ck x1 c1
   replace c2 := ck x1 c2
   replace c3 := ck x1 c3
   replace c4 := ck x1 c4
   clear HC hb0 hb1
   rcases kind4 x'.kind with hk | hk | hk | ⟨k1, k2, k3, k4⟩
   ·rw [hk] at c4
    have HZ : Hid (y = 1) := by show y = _; rw [HY.out, hk]; rfl
    clear hk
    go_wp2_with (fail)
    go_ret
    exact ⟨by rw [HZ.out]; rfl, ext_alloc x1 _⟩
   ·rw [hk] at c4
    have HZ : Hid (y = 4) := by show y = _; rw [HY.out, hk]; rfl
    clear hk
    go_wp2_with (fail)
    go_ret
    exact ⟨by rw [HZ.out]; rfl, ext_alloc x1 _⟩
   ·rw [hk] at c4
    by_cases ha : x'.a = r
    ·have hab : (x'.a == r) = true := by simp [ha]
     by_cases hb : x'.ai = d
     ·have hbb : (x'.ai == d) = true := by simp [hb]
      have HZ : Hid (y = 2) := by show y = _; rw [HY.out, hk]; simp [ha, hb]
      clear hk ha hb
      go_wp2_with (fail)
      go_ret
      exact ⟨by rw [HZ.out]; rfl, ext_alloc x1 _⟩
     ·have hbb : (x'.ai == d) = false := by simp [hb]
      have HZ : Hid (y = 3) := by show y = _; rw [HY.out, hk]; simp [hb]
      clear hk ha hb
      go_wp2_with (fail)
      go_ret
      exact ⟨by rw [HZ.out]; rfl, ext_alloc x1 _⟩
    ·have hab : (x'.a == r) = false := by simp [ha]
     have HZ : Hid (y = 3) := by show y = _; rw [HY.out, hk]; simp [ha]
     clear hk ha
     go_wp2_with (fail)
     go_ret
     exact ⟨by rw [HZ.out]; rfl, ext_alloc x1 _⟩
   ·have HZ : Hid (y = 0) := by
     show y = _
     rw [HY.out]
     simp only [beq_eq_false_iff_ne, ne_eq] at k1 k2 k3
     simp [k1, k2, k3]
    go_wp2_with (fail)
    go_ret
    exact ⟨by rw [HZ.out]; rfl, ext_alloc x1 _⟩
/-- The other end of the link of an interface. -/
def remote (t : Topo) (r d : Int) : Int × Int := match (findL t.links r d).bind (t.links[·]?) with
  | none => (-1, 0)
  | some l => if l.a = r ∧ l.ai = d then (l.b, l.bi) else (l.a, l.ai)
end Go.Proofs.YtdaecknfahgddaaGreat
namespace Go.Proofs.YtdaecknfahgddaaGreat
open Go.RowKit
set_option linter.unusedVariables false
/-- The elements of a slice, without the slice. -/
def elsO {α : Type} (T : Ty α) (css : List (List Value)) (l : List α) : Ow where
  P b w fp := ∃ fps : List (List Nat), css.length = l.length ∧ fps.length = l.length ∧ (∀ (i : Nat) cs a f, css[i]? = some cs → l[i]? = some a → fps[i]? = some f → T.O b w cs a f) ∧ fp = fps.flatten ∧ fp.Nodup
  lt := by
    rintro b w fp ⟨fps, h1, h2, h4, rfl, h6⟩ x hx
    obtain ⟨f, hf, hxf⟩ := List.mem_flatten.1 hx
    obtain ⟨i, hi, rfl⟩ := List.getElem_of_mem hf
    exact T.lt _ _ _ _ _ (h4 i _ _ _ (List.getElem?_eq_getElem (by omega)) (List.getElem?_eq_getElem (by omega)) (List.getElem?_eq_getElem hi)) x hxf
  keep := by
    rintro b w w' fp ⟨fps, h1, h2, h4, rfl, h6⟩ hk
    exact ⟨fps, h1, h2, fun i cs a f hc ha hf => T.okeep _ _ _ _ _ _ (h4 i cs a f hc ha hf) fun x hx => hk x (List.mem_flatten.2 ⟨f, List.mem_of_getElem? hf, hx⟩), rfl, h6⟩
  mono := by
    rintro b b' w fp hb ⟨fps, h1, h2, h4, h5, h6⟩
    exact ⟨fps, h1, h2, fun i cs a f hc ha hf => T.mono _ _ _ _ _ _ hb (h4 i cs a f hc ha hf), h5, h6⟩
section
variable {α : Type} {T : Ty α} {b : Nat} {w : World} {os : List Ow} {e : TypeId} {v : Value} {l : List α} {css : List (List Value)}
end
section
variable {P : Program} {n : Nat} {ops : Array Oper} {Q : Exit → Act → World → Prop} {L : Frm} {w : World} {m : Md} {r : IT} {d : Nat} {ty : TypeId} {pos : String} {af : Array Edge} {b : Nat} {os : List Ow}
/-- A cut of a slice, its value told. -/
theorem t_sltv {t e : TypeId} {size bytes : Nat} (et : ElemT P t e size bytes) {A : Option Addr} {nn c : Nat} {xo hi : Operand} {k : Nat} {i : Int} (hx : ev L xo = some (.slice A nn c)) (hi' : ev L hi = some (I i)) (hik : i = ((k : Nat) : Int)) (hk : k ≤ c)
    (kk : WT P n ops Q r ((d, .slice A k c) :: L) w) (hn : Nat.blt d n = true) : WT P n ops Q (.st m ⟨some d, .slice t xo none (some hi) none, ty, pos, af, none⟩ r) L w := by
  obtain ⟨inf, z, hinf, _, hsz, _, _⟩ := et.info
  subst hik
  refine t_read (v := .slice A k c) (fun a ha _ _ _ w' _ => ?_) kk hn
  have hc : (0 : Int) ≤ (k : Int) ∧ (k : Int) ≤ (c : Int) := by omega
  cases A <;> simp [execOp, ha.ev hx, ha.ev hi', Instr.sliceAt, Instr.slice, Instr.sliceBounds, Instr.sliceBound, asIntOf, run_underlying et.und, hk, sizeOf, typeInfo, hinf, Addr.add]
theorem t_sldv {t e : TypeId} {size bytes : Nat} (et : ElemT P t e size bytes) {A : Option Addr} {nn c : Nat} {xo lo : Operand} {k : Nat} {i : Int} (hx : ev L xo = some (.slice A nn c)) (hi' : ev L lo = some (I i)) (hik : i = ((k : Nat) : Int)) (hk : k ≤ nn) (hc : nn ≤ c)
    (kk : WT P n ops Q r ((d, .slice (if c = k then A else A.map (·.add (k * size))) (nn - k) (c - k)) :: L) w) (hn : Nat.blt d n = true) : WT P n ops Q (.st m ⟨some d, .slice t xo (some lo) none none, ty, pos, af, none⟩ r) L w := by
  obtain ⟨inf, z, hinf, _, hsz, _, _⟩ := et.info
  subst hik
  refine t_read (fun a ha _ _ _ w' _ => ?_) kk hn
  have hc' : (0 : Int) ≤ (k : Int) ∧ (k : Int) ≤ (nn : Int) := by omega
  simp [execOp, ha.ev hx, ha.ev hi', Instr.sliceAt, Instr.slice, Instr.sliceBounds, Instr.sliceBound, asIntOf, run_underlying et.und, hk, sizeOf, typeInfo, hinf, hsz]
/-- A slice literal of nothing. -/
theorem t_lit0 {α : Type} {T : Ty α} {t e : TypeId} {C : Array Value} (S : Sep b w os)
    (hb : ∀ w, (Instr.buildSlice t 0 #[]).run P w = .ok (.slice (some ⟨w.heap.size, 0, none⟩) 0 0) (w.alloc (.cells C e))) (hC : C = #[])
    (k : ∀ A0 w', Ext w w' → Sep b w' (slO T e (.slice A0 0 0) ([] : List α) :: os) → WT P n ops Q r ((d, .slice A0 0 0) :: L) w') (hm : m.isTake = false) (hn : Nat.blt d n = true) : WT P n ops Q (.st m ⟨some d, .buildSlice t 0 #[], ty, pos, af, none⟩ r) L w := by
  subst hC
  have he := ext_new w (.cells #[] e)
  have hO : SlO T e w.heap.size (w.alloc (.cells #[] e)) (.slice (some ⟨w.heap.size, 0, none⟩) 0 0) ([] : List α) [w.heap.size] := by
    refine ⟨[], [], rfl, rfl, ?_, (fun i cs a f hi ha hf => by simp at hi), rfl, by simp⟩
    have := World.ownsRow_lit (base := w.heap.size) (e := e) (size := T.size) w (#[] : Array Value) 0 (Nat.le_refl _) (by simp [maxLen]) (by simp)
    simpa using this
  refine t_make he (fun a ha _ _ _ => ?_) (k _ _ he (S.add he hO)) hm hn
  simp [execOp, hb]
end
end Go.Proofs.YtdaecknfahgddaaGreat
namespace Go.Proofs.YtdaecknfahgddaaGreat
open Go.RowKit
set_option linter.unusedVariables false
def PreL (pre : List Nat) (l : Array Bool) : Prop := ∀ j, pre.contains j = true → l.getD j false = true
theorem getD_setF {l : Array Bool} {i j : Nat} (h : l.getD j false = true) : (l.setIfInBounds i true).getD j false = true := by
  by_cases hij : i = j
  · subst hij
    by_cases hlt : i < l.size
    · simp [hlt]
    · simp [hlt] at h
  · rw [getD_set_ne false hij]; exact h
theorem PreL.set {pre : List Nat} {l : Array Bool} (h : PreL pre l) (i : Nat) : PreL pre (l.setIfInBounds i true) := fun j hj => getD_setF (h j hj)
theorem PreL.not {pre : List Nat} {l : Array Bool} (h : PreL pre l) {j : Nat} (hj : l.getD j true = false) : pre.contains j = false := by
  cases hb : pre.contains j with
  | false => rfl
  | true =>
    have h2 := h j hb
    rcases Nat.lt_or_ge j l.size with h' | h'
    · simp [h'] at hj h2; rw [hj] at h2; cases h2
    · simp [Array.getElem?_eq_none h'] at h2
def hOne (pre : List Nat) (top : Plan) (i : Nat) : Bool := !top.isFin i && !pre.contains i
theorem PreL.one {pre : List Nat} {l : Array Bool} (h : PreL pre l) {top : Plan} {i : Nat} (hi : (!top.isFin i) = true) (hj : l.getD i true = false) : hOne pre top i = true := by
  unfold hOne
  rw [hi, h.not hj]
  rfl
section
variable {P : Program} {ops : Array Oper} {Q : Exit → Act → World → Prop} {S S' : World → Prop} {h1 : Nat → Bool}
theorem G_first2 (pre : List Nat) (hph : ∀ j i, pre.contains j = false → h1 j = false → h1 i = true → j < ops.size → i < ops.size → waits ops ops.size j i = true) {i : Nat} {oi : Oper} {v : Value} (hi : ops[i]? = some oi) (hi1 : h1 i = true) (hsel : ∀ (j : Nat) (o : Oper) cs b, ops[j]? = some o → o.op ≠ .select cs b)
    (hQ : ∀ c a w, Q (.panic c) (a.put oi.dst v) w → Q (.panic c) a w) :
    ∀ (fuel : Nat) (listed : Array Bool) (a : Act) (w : World), Closed ops listed → PreL pre listed →
      (∀ j oj, ops[j]? = some oj → j ≠ i → listed.getD j true = false → (∀ e ∈ oj.after, Region.binds .any e = true → e.on ≠ i) → oi.apart ops oj = true) →
      i ∈ Region.ready .any ops listed → YieldsIf P ops S oi v a → S w →
      wpAnyG P ops Q S h1 fuel (listed.setIfInBounds i true) (a.put oi.dst v) w → wpAnyG P ops Q S h1 (fuel + 1) listed a w := by
  intro fuel
  induction fuel with
  | zero =>
    intro listed a w _ _ _ hr hy hS H
    refine ⟨fun h => (by rw [h] at hr; cases hr), fun j hj => ?_⟩
    by_cases hji : j = i
    · subst hji; exact hy.wpOp hi hS ⟨fun _ => hS, H⟩
    · have := ready_mono hj hji
      rw [H.1] at this
      cases this
  | succ fuel ih =>
    intro listed a w hcl hpl hfree hr hy hS H
    refine ⟨fun h => (by rw [h] at hr; cases hr), fun j hj => ?_⟩
    by_cases hji : j = i
    · subst hji; exact hy.wpOp hi hS ⟨fun _ => hS, H⟩
    · have hm := H.2 j (ready_mono hj hji)
      obtain ⟨hjun, oj, hoj, hall⟩ := mem_ready.1 hj
      have hilt : i < ops.size := (Array.getElem?_eq_some_iff.1 hi).1
      have hjlt : j < ops.size := (Array.getElem?_eq_some_iff.1 hoj).1
      have hnl : listed.getD i false ≠ true := fun h => by
        have h0 := (mem_ready.1 hr).1
        rcases Nat.lt_or_ge i listed.size with h' | h'
        · simp [h'] at h0 h; rw [h0] at h; cases h
        · simp [Array.getElem?_eq_none h'] at h
      have hj1 : h1 j = true := by
        cases hb : h1 j
        · exact absurd (hcl.waits _ _ _ (fun o ho => by rw [hoj] at ho; cases ho; exact hall) (hph j i (hpl.not (mem_ready.1 hj).1) hb hi1 hjlt hilt)) hnl
        · rfl
      have hnot : ∀ e ∈ oj.after, Region.binds .any e = true → e.on ≠ i := fun e he hb heq => hnl (heq ▸ hall e he hb)
      have h2 := wpOp_putIf hoj (hfree j oj hoj hji hjun hnot) (fun cs b => hsel i oi cs b hi) (fun cs b => hsel j oj cs b hoj) hQ hy hm
      have hfree' : ∀ k ok, ops[k]? = some ok → k ≠ i → (listed.setIfInBounds j true).getD k true = false →
          (∀ e ∈ ok.after, Region.binds .any e = true → e.on ≠ i) → oi.apart ops ok = true := fun k ok hk hki hun hno => by
        refine hfree k ok hk hki ?_ hno
        by_cases hjk : j = k
        · subst hjk; exact hjun
        · rw [getD_set_ne true hjk] at hun; exact hun
      refine wpOp_mono (fun a' w' h3 => ⟨h3.2.1, ih (listed.setIfInBounds j true) a' w' (hcl.set hj) (hpl.set j) hfree' (ready_mono hr (Ne.symm hji)) h3.1 (h3.2.1 hj1) ?_⟩) h2
      rw [Array.setIfInBounds_comm _ _ hji]
      exact h3.2.2
theorem plan_sound2 (pre : List Nat) (top : Plan) (hph : ∀ j i, top.isFin j = true → top.isFin i = false → pre.contains i = false → j < ops.size → i < ops.size → waits ops ops.size j i = true) (hsel : ∀ (j : Nat) (o : Oper) cs b, ops[j]? = some o → o.op ≠ .select cs b)
  (hQ : ∀ c a w d v, Q (.panic c) (Act.put a d v) w → Q (.panic c) a w) (p : Plan) : ∀ (l : Array Bool) (a : Act) (w : World), Closed ops l → PreL pre l → modesIn top p = true → wpT P ops Q (p.tree ops) a w →
   (p.ok ops false l = true → ∀ f, p.len ≤ f → wpAnyG P ops Q (Ext w) (hOne pre top) f l a w) ∧
   (p.ok ops true l = true → ∀ f, p.len ≤ f + 1 → ∀ i ∈ p.heads, i ∈ Region.ready .any ops l → wpOp P ops Q i (fun a' w' => (hOne pre top i = true → Ext w w') ∧ wpAnyG P ops Q (Ext w) (hOne pre top) f (l.setIfInBounds i true) a' w') a w) := by
 have hph' : ∀ j i, pre.contains j = false → hOne pre top j = false → hOne pre top i = true → j < ops.size → i < ops.size → waits ops ops.size j i = true := fun j i hp h1 h2 => by
  simp only [hOne, Bool.and_eq_true, Bool.not_eq_true', Bool.and_eq_false_iff, Bool.not_eq_false'] at h1 h2
  rcases h1 with h1 | h1
  ·exact hph j i h1 h2.1 h2.2
  ·rw [hp] at h1; cases h1
 induction p with
 | done =>
  intro l a w hc hpl hm hT
  refine ⟨fun hok f hf => G_done (by simpa [Plan.ok] using hok) hT f, fun hok => by simp [Plan.ok] at hok⟩
 | alt p q ihp ihq =>
  intro l a w hc hpl hm hT
  simp only [modesIn, Bool.and_eq_true] at hm
  obtain ⟨hTp, hTq⟩ := hT
  have hp := ihp l a w hc hpl hm.1 hTp
  have hq := ihq l a w hc hpl hm.2 hTq
  have hB : p.ok ops true l = true → q.ok ops true l = true → ∀ f, max p.len q.len ≤ f + 1 → ∀ i ∈ p.heads ++ q.heads, i ∈ Region.ready .any ops l → wpOp P ops Q i (fun a' w' => (hOne pre top i = true → Ext w w') ∧ wpAnyG P ops Q (Ext w) (hOne pre top) f (l.setIfInBounds i true) a' w') a w := by
   intro h1 h2 f hf i hi hr
   rcases List.mem_append.1 hi with hi | hi
   ·exact hp.2 h1 f (by omega) i hi hr
   ·exact hq.2 h2 f (by omega) i hi hr
  refine ⟨fun hok f hf => ?_, fun hok f hf i hi hr => ?_⟩
  ·simp only [Plan.ok, Bool.and_eq_true, Bool.false_or] at hok
   obtain ⟨⟨⟨hne, hall⟩, h1⟩, h2⟩ := hok
   simp only [Plan.len] at hf
   have hpos : 0 < f := by
    cases hpl : p with
    | done => rw [hpl] at h1; simp [Plan.ok] at h1
    | st m i r => rw [hpl] at hf; simp only [Plan.len] at hf; omega
    | alt p1 q1 =>
     rcases Nat.eq_zero_or_pos f with h0 | h0
     ·exfalso
      have key : ∀ p : Plan, p.ok ops true l = true → 0 < p.len := by
       intro p
       induction p with
       | done => intro h; simp [Plan.ok] at h
       | st m i r _ => intro _; simp [Plan.len]
       | alt p q ih1 _ => intro h; simp only [Plan.ok, Bool.true_or, Bool.true_and, Bool.and_eq_true] at h; have := ih1 h.1; simp only [Plan.len]; omega
      have := key p h1
      omega
     ·exact h0
   obtain ⟨f, rfl⟩ : ∃ g, f = g + 1 := ⟨f - 1, by omega⟩
   refine ⟨fun h0 => by rw [h0] at hne; simp at hne, fun i hi => hB h1 h2 f hf i ?_ hi⟩
   have := List.all_eq_true.1 hall i hi
   simpa using this
  ·simp only [Plan.ok, Bool.and_eq_true, Bool.true_or, Bool.true_and] at hok
   exact hB hok.1 hok.2 f hf i hi hr
 | st m i r ih =>
  have hop : Nat.blt i ops.size = true → ops[i]? = some (ops.getD i default) := fun h => by
   have : i < ops.size := by simpa [Nat.blt_eq] using h
   simp [this]
  cases m with
  | take =>
   intro l a w hc hpl hm hT
   refine ⟨fun hok f hf => ?_, fun hok => by simp [Plan.ok] at hok⟩
   simp only [Plan.ok, Bool.and_eq_true, Bool.not_false, true_and] at hok
   obtain ⟨⟨⟨hlt, hfr⟩, hrd⟩, hr⟩ := hok
   simp only [modesIn, Bool.and_eq_true] at hm
   obtain ⟨v, hy, hT⟩ := hT
   simp only [Plan.len] at hf
   obtain ⟨f, rfl⟩ : ∃ g, f = g + 1 := ⟨f - 1, by omega⟩
   have hrd' : i ∈ Region.ready .any ops l := by simpa using hrd
   exact G_first2 pre hph' (hop hlt) (hpl.one hm.1 (mem_ready.1 hrd').1) hsel (fun c a w h => hQ c a w _ _ h) f l a w hc hpl (Region.free_spec (hop hlt) hfr) hrd' hy (Below.refl _ _) ((ih _ _ w (hc.set hrd') (hpl.set i) hm.2 hT).1 hr f (by omega))
  | run =>
   intro l a w hc hpl hm hT
   simp only [modesIn, Bool.and_eq_true] at hm
   have hB : Nat.blt i ops.size = true → r.ok ops false (l.setIfInBounds i true) = true → i ∈ Region.ready .any ops l → ∀ f, r.len ≤ f → wpOp P ops Q i (fun a' w' => (hOne pre top i = true → Ext w w') ∧ wpAnyG P ops Q (Ext w) (hOne pre top) f (l.setIfInBounds i true) a' w') a w := by
    intro hlt hr hrd f hf
    simp only [Plan.tree, wpT] at hT
    have ho' := hop hlt
    generalize ops.getD i default = o' at ho' hT
    unfold wpOp
    simp only [ho']
    split
    ·rename_i hw
     rw [if_pos hw] at hT
     exact .inl (Oper.wp_mono (fun a' w' h => ⟨fun _ => h.1, G_mono (fun x hx => ext_trans h.1 hx) _ _ _ _ ((ih _ a' w' (hc.set hrd) (hpl.set i) hm.2 h.2).1 hr f hf)⟩) hT)
    ·rename_i hw
     rw [if_neg hw] at hT
     exact ⟨fun _ => Below.refl _ _, (ih _ _ w (hc.set hrd) (hpl.set i) hm.2 hT).1 hr f hf⟩
   refine ⟨fun hok f hf => ?_, fun hok f hf j hj hrd => ?_⟩
   ·simp only [Plan.ok, Bool.and_eq_true, Bool.false_or] at hok
    obtain ⟨⟨hlt, hrd⟩, hr⟩ := hok
    have hrd' : Region.ready .any ops l = [i] := by simpa using hrd
    simp only [Plan.len] at hf
    obtain ⟨f, rfl⟩ : ∃ g, f = g + 1 := ⟨f - 1, by omega⟩
    refine ⟨(fun h0 => by rw [h0] at hrd'; cases hrd'), fun j hj => ?_⟩
    have : j = i := by rw [hrd'] at hj; simpa using hj
    subst this
    exact hB hlt hr hj f (by omega)
   ·simp only [Plan.ok, Bool.and_eq_true, Bool.true_or, and_true] at hok
    have : j = i := by simpa [Plan.heads] using hj
    subst this
    simp only [Plan.len] at hf
    exact hB hok.1 hok.2 hrd f (by omega)
  | fin =>
   intro l a w hc hpl hm hT
   simp only [modesIn, Bool.and_eq_true] at hm
   have hB : Nat.blt i ops.size = true → r.ok ops false (l.setIfInBounds i true) = true → i ∈ Region.ready .any ops l → ∀ f, r.len ≤ f → wpOp P ops Q i (fun a' w' => (hOne pre top i = true → Ext w w') ∧ wpAnyG P ops Q (Ext w) (hOne pre top) f (l.setIfInBounds i true) a' w') a w := by
    intro hlt hr hrd f hf
    have hlt' : i < ops.size := by simpa [Nat.blt_eq] using hlt
    have hall : ∀ k, k < ops.size → hOne pre top k = true → (l.setIfInBounds i true).getD k true = true := by
     intro k hks hk
     obtain ⟨_, o, ho, hedge⟩ := mem_ready.1 hrd
     have := hc.waits _ i k (fun o' ho' => by rw [ho] at ho'; cases ho'; exact hedge) (hph i k hm.1 (by simp only [hOne, Bool.and_eq_true, Bool.not_eq_true'] at hk; exact hk.1) (by simp only [hOne, Bool.and_eq_true, Bool.not_eq_true'] at hk; exact hk.2) hlt' hks)
     have h2 : l.getD k true = true := by
      rcases Nat.lt_or_ge k l.size with h' | h'
      ·simp [h'] at this ⊢; exact this
      ·simp [Array.getElem?_eq_none h'] at this
     exact getD_set h2
    simp only [Plan.tree, wpT] at hT
    have ho' := hop hlt
    generalize ops.getD i default = o' at ho' hT
    unfold wpOp
    simp only [ho']
    split
    ·rename_i hw
     rw [if_pos hw] at hT
     exact .inl (Oper.wp_mono (fun a' w' h => ⟨(fun hh => by simp [hOne, hm.1] at hh), G_free _ _ _ _ hall ((ih _ a' w' (hc.set hrd) (hpl.set i) hm.2 h).1 hr f hf)⟩) hT)
    ·rename_i hw
     rw [if_neg hw] at hT
     exact ⟨fun _ => Below.refl _ _, (ih _ _ w (hc.set hrd) (hpl.set i) hm.2 hT).1 hr f hf⟩
   refine ⟨fun hok f hf => ?_, fun hok f hf j hj hrd => ?_⟩
   ·simp only [Plan.ok, Bool.and_eq_true, Bool.false_or] at hok
    obtain ⟨⟨hlt, hrd⟩, hr⟩ := hok
    have hrd' : Region.ready .any ops l = [i] := by simpa using hrd
    simp only [Plan.len] at hf
    obtain ⟨f, rfl⟩ : ∃ g, f = g + 1 := ⟨f - 1, by omega⟩
    refine ⟨(fun h0 => by rw [h0] at hrd'; cases hrd'), fun j hj => ?_⟩
    have : j = i := by rw [hrd'] at hj; simpa using hj
    subst this
    exact hB hlt hr hj f (by omega)
   ·simp only [Plan.ok, Bool.and_eq_true, Bool.true_or, and_true] at hok
    have : j = i := by simpa [Plan.heads] using hj
    subst this
    simp only [Plan.len] at hf
    exact hB hok.1 hok.2 hrd f (by omega)
/-- A step that no world touches, and that nobody has to wait for with what he knows of the world. -/
theorem G_firstP {i : Nat} {oi : Oper} {v : Value} (hi : ops[i]? = some oi) (hi1 : h1 i = false) (hsel : ∀ (j : Nat) (o : Oper) cs b, ops[j]? = some o → o.op ≠ .select cs b)
    (hQ : ∀ c a w, Q (.panic c) (a.put oi.dst v) w → Q (.panic c) a w) :
    ∀ (fuel : Nat) (listed : Array Bool) (a : Act) (w : World),
      (∀ j oj, ops[j]? = some oj → j ≠ i → listed.getD j true = false → (∀ e ∈ oj.after, Region.binds .any e = true → e.on ≠ i) → oi.apart ops oj = true) →
      i ∈ Region.ready .any ops listed → YieldsIf P ops (fun _ => True) oi v a →
      wpAnyG P ops Q S h1 fuel (listed.setIfInBounds i true) (a.put oi.dst v) w → wpAnyG P ops Q S h1 (fuel + 1) listed a w := by
  intro fuel
  induction fuel with
  | zero =>
    intro listed a w _ hr hy H
    refine ⟨fun h => (by rw [h] at hr; cases hr), fun j hj => ?_⟩
    by_cases hji : j = i
    · subst hji; exact hy.wpOp hi trivial ⟨(fun hh => by rw [hi1] at hh; cases hh), H⟩
    · have := ready_mono hj hji
      rw [H.1] at this
      cases this
  | succ fuel ih =>
    intro listed a w hfree hr hy H
    refine ⟨fun h => (by rw [h] at hr; cases hr), fun j hj => ?_⟩
    by_cases hji : j = i
    · subst hji; exact hy.wpOp hi trivial ⟨(fun hh => by rw [hi1] at hh; cases hh), H⟩
    · have hm := H.2 j (ready_mono hj hji)
      obtain ⟨hjun, oj, hoj, hall⟩ := mem_ready.1 hj
      have hnl : listed.getD i false ≠ true := fun h => by
        have h0 := (mem_ready.1 hr).1
        rcases Nat.lt_or_ge i listed.size with h' | h'
        · simp [h'] at h0 h; rw [h0] at h; cases h
        · simp [Array.getElem?_eq_none h'] at h
      have hnot : ∀ e ∈ oj.after, Region.binds .any e = true → e.on ≠ i := fun e he hb heq => hnl (heq ▸ hall e he hb)
      have h2 := wpOp_putIf hoj (hfree j oj hoj hji hjun hnot) (fun cs b => hsel i oi cs b hi) (fun cs b => hsel j oj cs b hoj) hQ hy hm
      have hfree' : ∀ k ok, ops[k]? = some ok → k ≠ i → (listed.setIfInBounds j true).getD k true = false →
          (∀ e ∈ ok.after, Region.binds .any e = true → e.on ≠ i) → oi.apart ops ok = true := fun k ok hk hki hun hno => by
        refine hfree k ok hk hki ?_ hno
        by_cases hjk : j = k
        · subst hjk; exact hjun
        · rw [getD_set_ne true hjk] at hun; exact hun
      refine wpOp_mono (fun a' w' h3 => ⟨h3.2.1, ih (listed.setIfInBounds j true) a' w' hfree' (ready_mono hr (Ne.symm hji)) h3.1 ?_⟩) h2
      rw [Array.setIfInBounds_comm _ _ hji]
      exact h3.2.2
/-- Steps that no world touches, ahead of the rest. -/
def wpPre (P : Program) (ops : Array Oper) (Q : Exit → Act → World → Prop) : List Oper → IT → Act → World → Prop
  | [], T, a, w => wpT P ops Q T a w
  | o :: l, T, a, w => ∃ v, YieldsIf P ops (fun _ => True) o v a ∧ wpPre P ops Q l T (a.put o.dst v) w
def preOK (ops : Array Oper) : List Nat → Array Bool → Bool
  | [], _ => true
  | i :: t, l => Nat.blt i ops.size && Region.free .any ops l i && (Region.ready .any ops l).contains i && preOK ops t (l.setIfInBounds i true)
def preEnd : List Nat → Array Bool → Array Bool
  | [], l => l
  | i :: t, l => preEnd t (l.setIfInBounds i true)
theorem pre_sound (top : Plan) (all : List Nat) (hsel : ∀ (j : Nat) (o : Oper) cs b, ops[j]? = some o → o.op ≠ .select cs b) (hQ : ∀ c a w d v, Q (.panic c) (Act.put a d v) w → Q (.panic c) a w)
    (hph : ∀ j i, top.isFin j = true → top.isFin i = false → all.contains i = false → j < ops.size → i < ops.size → waits ops ops.size j i = true) (hm : modesIn top top = true) :
    ∀ (pre : List Nat) (l : Array Bool) (a : Act) (w : World), (∀ i ∈ pre, all.contains i = true) → (∀ i, all.contains i = true → l.getD i false = true ∨ i ∈ pre) → Closed ops l → preOK ops pre l = true → top.ok ops false (preEnd pre l) = true →
      wpPre P ops Q (pre.map fun i => ops.getD i default) (top.tree ops) a w → ∀ f, top.len ≤ f → wpAnyG P ops Q (Ext w) (hOne all top) (f + pre.length) l a w := by
  intro pre
  induction pre with
  | nil =>
    intro l a w hin hall hc hok htop hT f hf
    exact (plan_sound2 all top hph hsel hQ top l a w hc (fun j hj => (hall j hj).resolve_right (by simp)) hm hT).1 htop f hf
  | cons i t ih =>
    intro l a w hin hall hc hok htop hT f hf
    simp only [preOK, Bool.and_eq_true] at hok
    obtain ⟨⟨⟨hlt, hfr⟩, hrd⟩, hok⟩ := hok
    have hlt' : i < ops.size := by simpa [Nat.blt_eq] using hlt
    have hop : ops[i]? = some (ops.getD i default) := by simp [hlt']
    have hrd' : i ∈ Region.ready .any ops l := by simpa using hrd
    simp only [List.map_cons, wpPre] at hT
    obtain ⟨v, hy, hT⟩ := hT
    have hI := ih (l.setIfInBounds i true) _ w (fun j hj => hin j (List.mem_cons_of_mem _ hj)) (fun j hj => by
      rcases hall j hj with h | h
      · exact .inl (getD_setF h)
      · rcases List.mem_cons.1 h with h | h
        · subst h
          left
          have h0 := (mem_ready.1 hrd').1
          have : j < l.size := by
            rcases Nat.lt_or_ge j l.size with h' | h'
            · exact h'
            · simp [Array.getElem?_eq_none h'] at h0
          simp [this]
        · exact .inr h) (hc.set hrd') hok htop hT f hf
    have := G_firstP (S := Ext w) (h1 := hOne all top) hop (by unfold hOne; rw [hin i (by simp)]; simp) hsel (fun c a w h => hQ c a w _ _ h) (f + t.length) l a w (Region.free_spec hop hfr) hrd' hy hI
    simpa [Nat.add_assoc] using this
end
def wholeP (pre : List Nat) (p : Plan) (ops : Array Oper) : Bool :=
  preOK ops pre (Array.replicate ops.size false) && p.ok ops false (preEnd pre (Array.replicate ops.size false)) && modesIn p p && Nat.ble (p.len + pre.length) ops.size && Region.noSelect ops &&
  (List.range ops.size).all fun j => !p.isFin j || (List.range ops.size).all fun i => p.isFin i || pre.contains i || waits ops ops.size j i
section
variable {P : Program} {n : Nat} {Q : Exit → Act → World → Prop} {L : Frm} {w : World}
def WPre (P : Program) (n : Nat) (ops : Array Oper) (Q : Exit → Act → World → Prop) (l : List Oper) (T : IT) (L : Frm) (w : World) : Prop := ∀ a, Env n L a → wpPre P ops Q l T a w
theorem w_drawP {id : Nat} {ops : Array Oper} (pre : List Nat) (p : Plan) (hm : P.follows .mixedOrders = true) (hp : wholeP pre p ops = true) (h : ∀ w', Ext w w' → WPre P n ops (NoP Q) (pre.map fun i => ops.getD i default) (p.tree ops) L w') : W P n Q (.region id ops true) L w := by
  intro a ha
  refine wp_mono (wp_region_any hm ?_) (fun e a w h => NoP.out h)
  simp only [wholeP, Bool.and_eq_true] at hp
  obtain ⟨⟨⟨⟨⟨h0, h1⟩, h2⟩, h3⟩, h4⟩, h5⟩ := hp
  have hph : ∀ j i, p.isFin j = true → p.isFin i = false → pre.contains i = false → j < ops.size → i < ops.size → waits ops ops.size j i = true := by
    intro j i hj hi hpi hjs his
    have h6 := List.all_eq_true.1 h5 j (List.mem_range.2 hjs)
    rw [hj] at h6
    simp only [Bool.not_true, Bool.false_or] at h6
    have h7 := List.all_eq_true.1 h6 i (List.mem_range.2 his)
    rw [hi, hpi] at h7
    simpa using h7
  have hc : Closed ops (Array.replicate ops.size false) := by
    intro j o _ hj
    exfalso
    rcases Nat.lt_or_ge j ops.size with h' | h'
    · simp [h'] at hj
    · simp [Array.getElem?_eq_none (xs := Array.replicate ops.size false) (i := j) (by simpa using h')] at hj
  have h3' : p.len + pre.length ≤ ops.size := by simpa using h3
  have := pre_sound (Q := NoP Q) p pre (Region.noSelect_spec h4) (fun c a w d v h => h) hph h2 pre _ a w.drew (fun i hi => by simpa using hi) (fun i hi => .inr (by simpa using hi)) hc h0 h1 (h w.drew (below_drew w) a ha) (ops.size - pre.length) (by omega)
  rw [Nat.sub_add_cancel (by omega)] at this
  exact wpAny_of_G _ _ _ _ this
variable {ops : Array Oper} {l : List Oper} {T : IT} {d : Nat} {ty : TypeId} {pos : String} {af : Array Edge}
theorem p_done (h : WT P n ops Q T L w) : WPre P n ops Q [] T L w := h
theorem p_read {op : Op} {v : Value} (h : ∀ a, Env n L a → ∀ dst af gd w', (execOp a.eval ⟨dst, op, ty, pos, af, gd⟩).run P w' = .ok (.value v) w') (k : WPre P n ops Q l T ((d, v) :: L) w) (hn : Nat.blt d n = true) : WPre P n ops Q (⟨some d, op, ty, pos, af, none⟩ :: l) T L w := by
  intro a ha
  exact ⟨v, .inl ⟨rfl, fun w' _ => h a ha _ _ _ w'⟩, k _ (ha.put hn v)⟩
theorem p_move {x : Operand} {v : Value} (hx : ev L x = some v) (k : WPre P n ops Q l T ((d, v) :: L) w) (hn : Nat.blt d n = true) : WPre P n ops Q (⟨some d, .move x, ty, pos, af, none⟩ :: l) T L w :=
  p_read (fun a ha _ _ _ w' => by simp [execOp, ha.ev hx]) k hn
theorem p_sltv {t e : TypeId} {size bytes : Nat} (et : ElemT P t e size bytes) {A : Option Addr} {nn c : Nat} {xo hi : Operand} {k : Nat} {i : Int} (hx : ev L xo = some (.slice A nn c)) (hi' : ev L hi = some (I i)) (hik : i = ((k : Nat) : Int)) (hk : k ≤ c)
    (kk : WPre P n ops Q l T ((d, .slice A k c) :: L) w) (hn : Nat.blt d n = true) : WPre P n ops Q (⟨some d, .slice t xo none (some hi) none, ty, pos, af, none⟩ :: l) T L w := by
  obtain ⟨inf, z, hinf, _, hsz, _, _⟩ := et.info
  subst hik
  refine p_read (v := .slice A k c) (fun a ha _ _ _ w' => ?_) kk hn
  have hc : (0 : Int) ≤ (k : Int) ∧ (k : Int) ≤ (c : Int) := by omega
  cases A <;> simp [execOp, ha.ev hx, ha.ev hi', Instr.sliceAt, Instr.slice, Instr.sliceBounds, Instr.sliceBound, asIntOf, run_underlying et.und, hk, sizeOf, typeInfo, hinf, Addr.add]
theorem p_sldv {t e : TypeId} {size bytes : Nat} (et : ElemT P t e size bytes) {A : Option Addr} {nn c : Nat} {xo lo : Operand} {k : Nat} {i : Int} (hx : ev L xo = some (.slice A nn c)) (hi' : ev L lo = some (I i)) (hik : i = ((k : Nat) : Int)) (hk : k ≤ nn) (hc : nn ≤ c)
    (kk : WPre P n ops Q l T ((d, .slice (if c = k then A else A.map (·.add (k * size))) (nn - k) (c - k)) :: L) w) (hn : Nat.blt d n = true) : WPre P n ops Q (⟨some d, .slice t xo (some lo) none none, ty, pos, af, none⟩ :: l) T L w := by
  obtain ⟨inf, z, hinf, _, hsz, _, _⟩ := et.info
  subst hik
  refine p_read (fun a ha _ _ _ w' => ?_) kk hn
  have hc' : (0 : Int) ≤ (k : Int) ∧ (k : Int) ≤ (nn : Int) := by omega
  simp [execOp, ha.ev hx, ha.ev hi', Instr.sliceAt, Instr.slice, Instr.sliceBounds, Instr.sliceBound, asIntOf, run_underlying et.und, hk, sizeOf, typeInfo, hinf, hsz]
end
end Go.Proofs.YtdaecknfahgddaaGreat
namespace Go.Proofs.YtdaecknfahgddaaGreat
open Go.RowKit
set_option linter.unusedVariables false
theorem app0_eq {P : Program} (w : World) {t ty e : TypeId} {size bytes : Nat} (et : ElemT P t e size bytes) {A0 A : Option Addr} {m c : Nat} (hm : 0 < m) (hby : m * bytes ≤ 140737488355328) (h63 : m ≤ maxLen) :
    (Builtin.append_ #[t, t] ty #[.slice A0 0 0, .slice A m c]).run P w = (Builtin.append_ #[t, t] ty #[.slice none 0 0, .slice A m c]).run P w := by
  obtain ⟨ht, ⟨i, z, hi, hz, hsize, hby', hzs⟩, hsz⟩ := et
  subst hby'
  simp only [maxLen] at h63
  have h0 : ¬ m = 0 := by omega
  have h1 : ¬ (9223372036854775807 : Int) < (m : Int) := by omega
  have h2 : ¬ 281474976710656 < Builtin.nextslicecap m 0 * i.bytes := by have := growslice_fits (need := m) (old := 0) hm hby; omega
  cases A0 <;> simp [Builtin.append_, run_underlying ht, sizeOf, typeInfo, hi, Builtin.lenOf, Builtin.firstCells, h0, h1, h2, loadCells, loadCellsFrom]
/-- append of owned elements onto an empty literal: only new memory. -/
theorem t_mv0 {P : Program} {n : Nat} {ops : Array Oper} {Q : Exit → Act → World → Prop} {L : Frm} {w : World} {r : IT} {d : Nat} {ty : TypeId} {pos : String} {af : Array Edge} {b : Nat} {os : List Ow}
  {α : Type} {T : Ty α} {t e : TypeId} {bytes : Nat} (et : ElemT P t e T.size bytes) {s x : Operand} {ar : Array TypeId} {A0 A : Option Addr} {c mm : Nat} {css : List (List Value)} {l' : List α} (S : Sep b w (slO T e (.slice A0 0 0) ([] : List α) :: elsO T css l' :: os)) (hr : Rd w A css.flatten) (hm : mm = l'.length) (hs : ev L s = some (.slice A0 0 0)) (hx : ev L x = some (.slice A mm c)) (har : ar = #[t, t])
  (hby : l'.length * bytes ≤ 140737488355328) (h63 : l'.length ≤ maxLen)
  (k : ∀ v' w', Ext w w' → Sep b w' (slO T e v' ([] ++ l') :: os) → WT P n ops Q r ((d, v') :: L) w') (hn : Nat.blt d n = true) : WT P n ops Q (.st .run ⟨some d, .call ⟨.builtin .append, #[s, x], ar⟩, ty, pos, af, none⟩ r) L w := by
 intro a ha
 subst har
 subst hm
 have hb := S.base
 obtain ⟨h1, fp, f, g, rfl, hf0, ⟨f2, g2, rfl, ⟨fps2, q1, q2, q4, q5, q6⟩, m2, m3⟩, h6⟩ := S
 have hR : ∀ (i : Nat) cs a, css[i]? = some cs → l'[i]? = some a → T.R w cs a := fun i cs a hi ha => by
  have hlt : i < fps2.length := by rw [q2]; exact (List.getElem?_eq_some_iff.1 ha).1
  exact T.read _ _ _ _ _ (q4 i cs a _ hi ha (List.getElem?_eq_getElem hlt))
 have hall : ∀ (i : Nat) cs, css[i]? = some cs → cs.length = T.size := fun i cs hi => by
  have hl : i < css.length := (List.getElem?_eq_some_iff.1 hi).1
  exact T.len _ _ _ (hR i cs _ hi (List.getElem?_eq_getElem (by omega)))
 have h11 : ∀ u ∈ css.flatten, u.oneCell' = true := fun u hu => by
  obtain ⟨cs, hcs, hu⟩ := List.mem_flatten.1 hu
  obtain ⟨i, hi, rfl⟩ := List.getElem_of_mem hcs
  exact T.one _ _ _ (hR i _ _ (List.getElem?_eq_getElem hi) (List.getElem?_eq_getElem (by omega))) u hu
 have hnil : w.ownsRow b e T.size (.slice none 0 0) 0 [] := World.ownsRow_nil w b e T.size
 simp only [wpT, Region.wanted, if_true]
 rcases Nat.eq_zero_or_pos l'.length with hz | hz
 ·have hl0 : l' = [] := List.eq_nil_of_length_eq_zero hz
  subst hl0
  obtain ⟨ht, ⟨i, z, hi, hzz, hsize, hbb, hzs⟩, hsz⟩ := et
  have hrun : (execOp a.eval ⟨some d, .call ⟨.builtin .append, #[s, x], #[t, t]⟩, ty, pos, af, none⟩).run P w = .ok (.value (.slice A0 0 0)) w := by
   cases A0 <;> cases A <;> simp [execOp, resolve, invoke, builtin, ha.ev hs, ha.ev hx, Builtin.append_, run_underlying ht, sizeOf, typeInfo, hi, Builtin.lenOf, Builtin.firstCells, loadCells, loadCellsFrom, storeCells]
  unfold Oper.wp
  rw [hrun]
  refine ⟨Below.refl _ _, k _ w (Below.refl _ _) ?_ _ (ha.put hn _)⟩
  exact ⟨hb, f ++ g2, f, g2, rfl, hf0, m2, fun z hz hy => h6 z hz (List.mem_append.2 (.inr hy))⟩
 ·obtain ⟨v', w', hrun, ho', hg', hv'⟩ := run_app (P := P) w (ty := ty) (c := c) et hnil hr (by rw [flatten_len hall, q1]) h11 (by rw [Nat.zero_add]; exact hby) (by rw [Nat.zero_add]; exact h63) hb
  rw [← app0_eq (A0 := A0) w et hz hby h63] at hrun
  obtain ⟨fp', g1, g2', g3⟩ := SlO.grow (T := T) (e := e) (base := b) (v := .slice none 0 0) (l := []) (css := []) (fps := []) (fp := []) (css' := css) (fps' := fps2) (l' := l') (m := l'.length) rfl rfl hnil (fun i cs a f hi => by simp at hi) rfl List.nodup_nil q1 q2 q4 (by rw [← q5]; exact q6) (fun y _ hy => by cases hy) rfl ho' hg' hv'
  rw [← q5] at g2'
  have hE : Ext w w' := ⟨g3.os, g3.tape, g3.output, g3.size, fun y hy => g3.block y hy (fun h => by cases h)⟩
  unfold Oper.wp execOp
  simp only [resolve, invoke, builtin, Sem.run_bind, Sem.run_pure, Result.andThen_ok, List.map_toArray, List.map_cons, List.map_nil, ha.ev hs, ha.ev hx, hrun]
  refine ⟨hE, k v' w' hE ⟨Nat.le_trans hb g3.size, fp' ++ g2, fp', g2, rfl, g1, m2.keep fun y hy => hE.block y (m2.lt y hy).2, fun z hz' hy => ?_⟩ _ (ha.put hn v')⟩
  rcases g2' z hz' with h | h | h
  ·cases h
  ·exact m3 z h hy
  ·have := (m2.lt z hy).2; omega
end Go.Proofs.YtdaecknfahgddaaGreat
namespace Go.Proofs.YtdaecknfahgddaaGreat
open Go.RowKit
set_option linter.unusedVariables false
set_option maxRecDepth 20000
theorem mulb {a b A B : Int} (ha : 0 ≤ a) (hA : a ≤ A) (hb : 0 ≤ b) (hB : b ≤ B) : 0 ≤ a * b ∧ a * b ≤ A * B :=
  ⟨Int.mul_nonneg ha hb, Int.mul_le_mul hA hB hb (by omega)⟩
theorem spec_l3Word {b n c : Nat} {w : World} {v : Value} {os : List Ow} (S : Sep b w (curO v n c 115 :: os)) (K : CodeK b w v n) : Calls Tryz.prog 120 #[.pointer (some ⟨c, 0, none⟩)] w fun e w' => ∃ x : Int, e = .returned (I x) ∧ (-1 ≤ x ∧ x ≤ 2147483648) ∧ Sep b w' (curO v n c 115 :: os) ∧ Below b w w' := by
 have X0 := Below.refl w.heap.size w
 refine enter Tryz.func120 rfl Tryz.ntmps120 rfl ?_
 have B := Below.refl b w
 have Hb := S.base
 refine w_s ?_
 refine w_g ?_
 refine t_a rfl ?_ rfl
 refine t_d ?_
 refine x_s ?_
 iterate 2 refine w_s ?_
 refine w_g ?_
 refine t_m rfl ?_ rfl
 refine t_f Tryz.call58 rfl (spec_l1Once 10 S (K.below B)) ?_ rfl
 rintro e w1 ⟨y4, rfl, hf4, S, x2⟩
 refine ⟨_, rfl, ?_⟩
 have B := B.trans x2
 refine t_d ?_
 refine x_s ?_
 refine w_if rfl ?_ ?_
 ·intro hc
  refine w_s ?_
  refine w_g ?_
  refine t_m rfl ?_ rfl
  refine t_lit (T := intT) (l := [(-1), 2147483647, 2147483648]) (css := ([(-1), 2147483647, 2147483648]).map fun a => [I a]) int_flat S (fun w => bs_int3 _ _ _ w) rfl rfl rfl rfl (by simp [maxLen]) (litR_int _) ?_ rfl rfl
  intro u6 w3 x4 S
  have B := bx Hb B x4
  have S := S.f1
  refine t_f Tryz.call115 rfl (spec_l1Int S (K.below B) (by simp)) ?_ rfl
  rintro e w5 ⟨y7, rfl, hf7, S, x6⟩
  refine ⟨_, rfl, ?_⟩
  have B := B.trans x6
  refine t_a rfl ?_ rfl
  refine t_d ?_
  refine x_s ?_
  refine w_r ?_
  refine x_t ?_
  refine x_ret1 rfl rfl ?_
  have hz : -1 ≤ y7 ∧ y7 ≤ 2147483648 := by simp at hf7; omega
  exact ⟨_, rfl, hz, S.f1.tail, B⟩
 ·intro hc
  refine w_k ?_
  refine x_s ?_
  iterate 2 refine w_s ?_
  refine w_g ?_
  refine t_m rfl ?_ rfl
  refine t_f Tryz.call58 rfl (spec_l1Once 4 S (K.below B)) ?_ rfl
  rintro e w7 ⟨y9, rfl, hf9, S, x8⟩
  refine ⟨_, rfl, ?_⟩
  have B := B.trans x8
  refine t_d ?_
  refine x_s ?_
  refine w_if rfl ?_ ?_
  ·intro hc2
   refine w_s ?_
   refine w_g ?_
   refine t_m rfl ?_ rfl
   refine t_lit (T := intT) (l := [0, 1, 2147483646]) (css := ([0, 1, 2147483646]).map fun a => [I a]) int_flat S (fun w => bs_int3 _ _ _ w) rfl rfl rfl rfl (by simp [maxLen]) (litR_int _) ?_ rfl rfl
   intro u11 w9 x10 S
   have B := bx Hb B x10
   have S := S.f1
   refine t_f Tryz.call115 rfl (spec_l1Int S (K.below B) (by simp)) ?_ rfl
   rintro e w11 ⟨y12, rfl, hf12, S, x12⟩
   refine ⟨_, rfl, ?_⟩
   have B := B.trans x12
   refine t_a rfl ?_ rfl
   refine t_d ?_
   refine x_s ?_
   refine w_r ?_
   refine x_t ?_
   refine x_ret1 rfl rfl ?_
   have hz : -1 ≤ y12 ∧ y12 ≤ 2147483648 := by simp at hf12; omega
   exact ⟨_, rfl, hz, S.f1.tail, B⟩
  ·intro hc2
   refine w_k ?_
   refine x_s ?_
   refine w_s ?_
   refine w_g ?_
   refine t_m rfl ?_ rfl
   refine t_f Tryz.call57 rfl (spec_l1Below 1000000 S (K.below B)) ?_ rfl
   rintro e w13 ⟨y14, rfl, hf14, S, x14⟩
   refine ⟨_, rfl, ?_⟩
   have B := B.trans x14
   refine t_m rfl ?_ rfl
   refine t_f Tryz.call57 rfl (spec_l1Below 2000 S (K.below B)) ?_ rfl
   rintro e w15 ⟨y16, rfl, hf16, S, x16⟩
   refine ⟨_, rfl, ?_⟩
   have B := B.trans x16
   refine t_mulw rfl rfl ?_ rfl
   refine t_a rfl ?_ rfl
   refine t_d ?_
   refine x_s ?_
   refine w_r ?_
   refine x_ret1 rfl rfl ?_
   have hm := mulb (a := y14) (b := y16) (A := 1000000) (B := 2000) (by omega) (by omega) (by omega) (by omega)
   rw [wr64 (by omega)]
   exact ⟨_, rfl, by omega, S, B⟩
theorem SlR.takeV {α : Type} {T : Ty α} {w : World} {A : Option Addr} {c k n' : Nat} {l : List α} (h : SlR T w (.slice A n' c) l) (hk : k ≤ l.length) : SlR T w (.slice A k c) (l.take k) := by
  obtain ⟨A', c', css, e, h1, h2, h3, h4⟩ := h
  cases e
  have hall : ∀ (i : Nat) cs, css[i]? = some cs → cs.length = T.size := fun i cs hi => by
    have hlt : i < l.length := by rw [← h2]; exact (List.getElem?_eq_some_iff.1 hi).1
    exact T.len _ _ _ (h4 i cs _ hi (List.getElem?_eq_getElem hlt))
  have hlen : (l.take k).length = k := by rw [List.length_take]; omega
  refine ⟨A, c, css.take k, by rw [hlen], by omega, by rw [hlen, List.length_take]; omega, fun hp => ?_, fun i cs x hi hx => ?_⟩
  · rw [flatten_take hall] at hp ⊢
    have hp' : 0 < css.flatten.length := by rw [List.length_take] at hp; omega
    obtain ⟨g, o, rfl, hg⟩ := h3 hp'
    refine ⟨g, o, rfl, fun j u hu => hg j u ?_⟩
    rw [List.getElem?_take] at hu
    split at hu
    · exact hu
    · cases hu
  · rw [List.getElem?_take] at hi hx
    split at hi
    · rename_i hik
      rw [if_pos hik] at hx
      exact h4 i cs x hi hx
    · cases hi
/-- append of plain elements onto an empty literal: only new memory. -/
theorem t_cat0 {P : Program} {n : Nat} {ops : Array Oper} {Q : Exit → Act → World → Prop} {L : Frm} {w : World} {r : IT} {d : Nat} {ty : TypeId} {pos : String} {af : Array Edge} {b : Nat} {os : List Ow}
    {α : Type} {T : Ty α} (hT : ∀ base w cs a, T.R w cs a → T.O base w cs a []) {t e : TypeId} {bytes : Nat} (et : ElemT P t e T.size bytes) {s x : Operand} {ar : Array TypeId} {A0 : Option Addr} {u : Value} {l' : List α} (S : Sep b w (slO T e (.slice A0 0 0) ([] : List α) :: os)) (hR : SlR T w u l') (hs : ev L s = some (.slice A0 0 0)) (hx : ev L x = some u) (har : ar = #[t, t])
    (hby : l'.length * bytes ≤ 140737488355328) (h63 : l'.length ≤ maxLen)
    (k : ∀ v' w', Ext w w' → Sep b w' (slO T e v' ([] ++ l') :: os) → WT P n ops Q r ((d, v') :: L) w') (hn : Nat.blt d n = true) : WT P n ops Q (.st .run ⟨some d, .call ⟨.builtin .append, #[s, x], ar⟩, ty, pos, af, none⟩ r) L w := by
  obtain ⟨A, c, css, rfl, h1, h2, h3, h4⟩ := hR
  have hO : (elsO T css l').P w.heap.size w [] := by
    refine ⟨l'.map fun _ => [], h2, by simp, fun i cs a f hi ha hf => ?_, by simp, List.nodup_nil⟩
    simp at hf
    obtain ⟨_, _, rfl⟩ := hf
    exact hT _ _ _ _ (h4 i cs a hi ha)
  exact t_mv0 et ((S.add (o := elsO T css l') (fp := []) (Below.refl _ _) hO).f1) h3 rfl hs hx har hby h63 k hn
/-- A number in its place among ascending ones, once. -/
def putL : List Int → Int → List Int
  | [], n => [n]
  | a :: t, n => if a < n then a :: putL t n else if a = n then a :: t else n :: a :: t
theorem putL_len (l : List Int) (n : Int) : (putL l n).length ≤ l.length + 1 := by
  induction l with
  | nil => simp [putL]
  | cons a t ih =>
    unfold putL
    split
    · simp; exact ih
    · split <;> simp
theorem mem_putL {l : List Int} {n x : Int} : x ∈ putL l n ↔ x = n ∨ x ∈ l := by
  induction l with
  | nil => simp [putL]
  | cons a t ih =>
    unfold putL
    split
    · simp [ih]; constructor
      · rintro (h | h | h) <;> simp [h]
      · rintro (h | h | h) <;> simp [h]
    · split
      · rename_i h; subst h; simp
      · simp
theorem spec_l5Put {b : Nat} {w : World} {u : Value} {l : List Int} {os : List Ow} (n : Int) (S : Sep b w (slO intT 3 u l :: os)) (hz : l.length ≤ 16777216) : Calls Tryz.prog 177 #[u, I n] w fun e w' => ∃ v, e = .returned v ∧ Sep b w' (slO intT 3 v (putL l n) :: os) ∧ Below b w w' := by
 have X0 := Below.refl w.heap.size w
 refine enter Tryz.func177 rfl Tryz.ntmps177 rfl ?_
 have B := Below.refl b w
 have Hb := S.base
 refine w_s ?_
 refine w_g ?_
 refine t_a rfl ?_ rfl
 refine t_d ?_
 refine x_s ?_
 refine w_s ?_
 refine w_g ?_
 refine t_a rfl ?_ rfl
 refine t_d ?_
 refine x_s ?_
 refine w_s ?_
 refine w_block ?_
 refine w_loop (X := Nat) (fun k wq => k ≤ l.length ∧ putL l n = l.take k ++ putL (l.drop k) n ∧ Below b w wq ∧ Sep b wq (slO intT 3 u l :: os)) (fun k => [(5, I ((k : Int))), (0, u), (1, I n), (4, .slice none 0 0)]) (fun k => l.length - k) (0) ?_ ⟨rfl, rfl, rfl, rfl, trivial⟩ ?_
 ·exact ⟨by omega, by simp, B, S⟩
 rintro k w17 hI
 try dsimp only at hI ⊢
 obtain ⟨hk, hp, B, S⟩ := hI
 iterate 2 refine w_s ?_
 refine w_g ?_
 iterate 2 refine t_m rfl ?_ rfl
 refine t_len e_int (S.sl) rfl rfl ?_ rfl
 refine t_lss rfl rfl ?_ rfl
 refine t_m rfl ?_ rfl
 have done : k = l.length → putL l n = l.take k ++ [n] ++ l.drop k := fun e => by
  rw [hp, List.drop_eq_nil_of_le (by omega)]; simp [putL]
 refine t_partp (t := 10) rfl ?_ ?_
 ·intro h1
  refine t_on rfl rfl ?_
  refine t_m rfl ?_ rfl
  refine t_on rfl rfl ?_
  refine t_m rfl ?_ rfl
  refine t_on rfl rfl ?_
  obtain ⟨e13, he13⟩ : ∃ e, (l)[k]? = some e := getx (by omega)
  refine t_idx e_int (k := k) (S.sl) he13 (Below.refl _ _) rfl rfl (by first | rfl | omega) ?_ rfl
  intro p13 hp13
  refine t_on rfl rfl ?_
  refine t_ldi ‹_› ab_int (Below.refl _ _) rfl ?_ rfl
  refine t_on rfl rfl ?_
  refine t_m rfl ?_ rfl
  refine t_on rfl rfl ?_
  refine t_lss rfl rfl ?_ rfl
  refine t_q rfl rfl ?_ rfl
  refine t_d ?_
  refine x_s ?_
  have hd : l.drop k = e13 :: l.drop (k + 1) := by
   rw [List.drop_eq_getElem_cons (by omega)]
   rw [List.getElem?_eq_getElem (by omega)] at he13
   cases he13; rfl
  refine w_if rfl ?_ ?_
  ·intro h2
   refine w_k ?_
   refine x_s ?_
   refine w_block ?_
   refine w_g ?_
   refine t_m rfl ?_ rfl
   refine t_add rfl rfl (by omega) ?_ rfl
   refine t_a rfl ?_ rfl
   refine t_d ?_
   refine x_b ?_
   refine x_r (X := Nat) (k + 1) ?_ (by exact ⟨rfl, rfl, rfl, rfl, trivial⟩) (by (try dsimp only); omega)
   try dsimp only
   refine ⟨by omega, ?_, B, S⟩
   rw [hp, hd, List.take_add_one, he13]
   simp [putL, h2]
  ·intro h2
   refine w_exit ?_
   iterate 2 refine x_then_exit ?_
   refine x_block_exit ?_
   refine x_s ?_
   iterate 2 refine w_s ?_
   refine w_g ?_
   iterate 2 refine t_m rfl ?_ rfl
   refine t_len e_int (S.sl) rfl rfl ?_ rfl
   refine t_lss rfl rfl ?_ rfl
   refine t_m rfl ?_ rfl
   refine t_partp (t := 24) rfl ?_ ?_
   ·intro h3
    refine t_on rfl rfl ?_
    refine t_m rfl ?_ rfl
    refine t_on rfl rfl ?_
    refine t_m rfl ?_ rfl
    refine t_on rfl rfl ?_
    refine t_idx e_int (k := k) (S.sl) he13 (Below.refl _ _) rfl rfl (by first | rfl | omega) ?_ rfl
    intro p27 hp27
    refine t_on rfl rfl ?_
    refine t_ldi ‹_› ab_int (Below.refl _ _) rfl ?_ rfl
    refine t_on rfl rfl ?_
    refine t_m rfl ?_ rfl
    refine t_on rfl rfl ?_
    refine t_eql rfl rfl ?_ rfl
    refine t_q rfl rfl ?_ rfl
    refine t_d ?_
    refine x_s ?_
    refine w_if rfl ?_ ?_
    ·intro h4
     refine w_s ?_
     refine w_g ?_
     refine t_m rfl ?_ rfl
     refine t_a rfl ?_ rfl
     refine t_d ?_
     refine x_s ?_
     refine w_r ?_
     refine x_t ?_
     refine x_ret1 rfl rfl ?_
     have hq : putL l n = l := by
      rw [hp, hd, putL, if_neg h2, if_pos h4, ← hd, List.take_append_drop]
     exact ⟨_, rfl, by rw [hq]; exact S, B⟩
    ·intro h4
     refine w_k ?_
     refine x_s ?_
     refine w_s ?_
     refine w_drawP [1, 2, 3, 5, 8, 9, 10] (.alt (.st .run 0 (.alt (.st .run 4 (.st .run 6 (.st .fin 7 (.st .fin 11 (.st .fin 12 .done))))) (.st .run 6 (.st .run 4 (.st .fin 7 (.st .fin 11 (.st .fin 12 .done))))))) (.st .run 6 (.st .run 0 (.st .run 4 (.st .fin 7 (.st .fin 11 (.st .fin 12 .done))))))) mixed (by kernel_rfl) ?_
     intro w18 x19
     have B := bx Hb B x19
     have S := S.below x19
     replace hp13 := hp13.below x19
     replace hp27 := hp27.below x19
     iterate 2 refine p_move rfl ?_ rfl
     obtain ⟨Au, cu, rfl, _⟩ := S.sl.form
     refine p_sltv e_int (k := k) rfl rfl (by first | rfl | omega) (by omega) ?_ rfl
     iterate 3 refine p_move rfl ?_ rfl
     refine p_sldv e_int (k := k) rfl rfl (by first | rfl | omega) (by omega) (by omega) ?_ rfl
     refine p_done ?_
     have hq : putL l n = ([] ++ l.take k) ++ [n] ++ l.drop k := by
      rw [hp, hd, putL, if_neg h2, if_neg h4]; simp
     have hkl : (l.take k).length = k := by rw [List.length_take]; omega
     have hkd : (l.drop k).length = l.length - k := by rw [List.length_drop]
     refine t_alt ?_ ?_
     ·refine t_lit0 (T := intT) S bs_int0 rfl ?_ rfl rfl
      intro A33 w20 x21 S
      have B := bx Hb B x21
      refine t_alt ?_ ?_
      ·have hR := (SlR.takeV S.tail.sl (by omega))
       refine t_cat0 int_flat e_int S hR rfl rfl rfl (by first | omega | (simp [-List.length_flatMap]; omega)) (by (simp [maxLen, -List.length_flatMap]; try omega)) ?_ rfl
       intro v37 w22 x23 S
       have B := bx Hb B x23
       clear hR
       refine t_lit (T := intT) (l := [n]) (css := ([n]).map fun a => [I a]) int_flat S (fun w => bs_int1 _ w) rfl rfl rfl rfl (by simp [maxLen]) (litR_int _) ?_ rfl rfl
       intro u39 w24 x25 S
       have B := bx Hb B x25
       have hR := S.sl
       have S := S.f1
       refine t_cat int_flat e_int S hR rfl rfl rfl (by first | omega | (simp [-List.length_flatMap]; omega)) (by (simp [maxLen, -List.length_flatMap]; try omega)) ?_ rfl
       intro v40 w26 x27 S
       have B := B.trans x27
       clear hR
       have S := S.f1.tail
       have hR := (SlR.drop S.tail.sl (by omega))
       refine t_cat int_flat e_int S hR rfl rfl rfl (by first | omega | (simp [-List.length_flatMap]; omega)) (by (simp [maxLen, -List.length_flatMap]; try omega)) ?_ rfl
       intro v44 w28 x29 S
       have B := B.trans x29
       clear hR
       refine t_a rfl ?_ rfl
       refine t_d' ?_
       refine x_s ?_
       refine w_r ?_
       refine x_ret1 rfl rfl ?_
       exact ⟨_, rfl, by rw [hq]; exact S.f1.tail, B⟩
      ·refine t_lit (T := intT) (l := [n]) (css := ([n]).map fun a => [I a]) int_flat S (fun w => bs_int1 _ w) rfl rfl rfl rfl (by simp [maxLen]) (litR_int _) ?_ rfl rfl
       intro u39 w30 x31 S
       have B := bx Hb B x31
       have hR := (SlR.takeV S.tail.tail.sl (by omega))
       have S := S.f1
       refine t_cat0 int_flat e_int S hR rfl rfl rfl (by first | omega | (simp [-List.length_flatMap]; omega)) (by (simp [maxLen, -List.length_flatMap]; try omega)) ?_ rfl
       intro v37 w32 x33 S
       have B := bx Hb B x33
       clear hR
       have hR := S.tail.sl
       refine t_cat int_flat e_int S hR rfl rfl rfl (by first | omega | (simp [-List.length_flatMap]; omega)) (by (simp [maxLen, -List.length_flatMap]; try omega)) ?_ rfl
       intro v40 w34 x35 S
       have B := B.trans x35
       clear hR
       have S := S.f1.tail
       have hR := (SlR.drop S.tail.sl (by omega))
       refine t_cat int_flat e_int S hR rfl rfl rfl (by first | omega | (simp [-List.length_flatMap]; omega)) (by (simp [maxLen, -List.length_flatMap]; try omega)) ?_ rfl
       intro v44 w36 x37 S
       have B := B.trans x37
       clear hR
       refine t_a rfl ?_ rfl
       refine t_d' ?_
       refine x_s ?_
       refine w_r ?_
       refine x_ret1 rfl rfl ?_
       exact ⟨_, rfl, by rw [hq]; exact S.f1.tail, B⟩
     ·refine t_lit (T := intT) (l := [n]) (css := ([n]).map fun a => [I a]) int_flat S (fun w => bs_int1 _ w) rfl rfl rfl rfl (by simp [maxLen]) (litR_int _) ?_ rfl rfl
      intro u39 w38 x39 S
      have B := bx Hb B x39
      refine t_lit0 (T := intT) S bs_int0 rfl ?_ rfl rfl
      intro A33 w40 x41 S
      have B := bx Hb B x41
      have hR := (SlR.takeV S.tail.tail.sl (by omega))
      refine t_cat0 int_flat e_int S hR rfl rfl rfl (by first | omega | (simp [-List.length_flatMap]; omega)) (by (simp [maxLen, -List.length_flatMap]; try omega)) ?_ rfl
      intro v37 w42 x43 S
      have B := bx Hb B x43
      clear hR
      have hR := S.tail.sl
      refine t_cat int_flat e_int S hR rfl rfl rfl (by first | omega | (simp [-List.length_flatMap]; omega)) (by (simp [maxLen, -List.length_flatMap]; try omega)) ?_ rfl
      intro v40 w44 x45 S
      have B := B.trans x45
      clear hR
      have S := S.f1.tail
      have hR := (SlR.drop S.tail.sl (by omega))
      refine t_cat int_flat e_int S hR rfl rfl rfl (by first | omega | (simp [-List.length_flatMap]; omega)) (by (simp [maxLen, -List.length_flatMap]; try omega)) ?_ rfl
      intro v44 w46 x47 S
      have B := B.trans x47
      clear hR
      refine t_a rfl ?_ rfl
      refine t_d' ?_
      refine x_s ?_
      refine w_r ?_
      refine x_ret1 rfl rfl ?_
      exact ⟨_, rfl, by rw [hq]; exact S.f1.tail, B⟩
   ·intro h3
    omega
 ·intro h1
  iterate 6 refine t_off rfl rfl rfl ?_ rfl
  refine t_p rfl rfl ?_ rfl
  refine t_d ?_
  refine x_s ?_
  refine w_no rfl ?_
  refine w_exit ?_
  iterate 2 refine x_then_exit ?_
  refine x_block_exit ?_
  refine x_s ?_
  iterate 2 refine w_s ?_
  refine w_g ?_
  iterate 2 refine t_m rfl ?_ rfl
  refine t_len e_int (S.sl) rfl rfl ?_ rfl
  refine t_lss rfl rfl ?_ rfl
  refine t_m rfl ?_ rfl
  refine t_partp (t := 24) rfl ?_ ?_
  ·intro h3
   omega
  ·intro h3
   iterate 6 refine t_off rfl rfl rfl ?_ rfl
   refine t_p rfl rfl ?_ rfl
   refine t_d ?_
   refine x_s ?_
   refine w_no rfl ?_
   refine w_k ?_
   refine x_s ?_
   refine w_s ?_
   refine w_drawP [1, 2, 3, 5, 8, 9, 10] (.alt (.st .run 0 (.alt (.st .run 4 (.st .run 6 (.st .fin 7 (.st .fin 11 (.st .fin 12 .done))))) (.st .run 6 (.st .run 4 (.st .fin 7 (.st .fin 11 (.st .fin 12 .done))))))) (.st .run 6 (.st .run 0 (.st .run 4 (.st .fin 7 (.st .fin 11 (.st .fin 12 .done))))))) mixed (by kernel_rfl) ?_
   intro w48 x49
   have B := bx Hb B x49
   have S := S.below x49
   iterate 2 refine p_move rfl ?_ rfl
   obtain ⟨Au, cu, rfl, _⟩ := S.sl.form
   refine p_sltv e_int (k := k) rfl rfl (by first | rfl | omega) (by omega) ?_ rfl
   iterate 3 refine p_move rfl ?_ rfl
   refine p_sldv e_int (k := k) rfl rfl (by first | rfl | omega) (by omega) (by omega) ?_ rfl
   refine p_done ?_
   have hq : putL l n = ([] ++ l.take k) ++ [n] ++ l.drop k := by rw [done (by omega)]; simp
   have hkl : (l.take k).length = k := by rw [List.length_take]; omega
   have hkd : (l.drop k).length = l.length - k := by rw [List.length_drop]
   refine t_alt ?_ ?_
   ·refine t_lit0 (T := intT) S bs_int0 rfl ?_ rfl rfl
    intro A33 w50 x51 S
    have B := bx Hb B x51
    refine t_alt ?_ ?_
    ·have hR := (SlR.takeV S.tail.sl (by omega))
     refine t_cat0 int_flat e_int S hR rfl rfl rfl (by first | omega | (simp [-List.length_flatMap]; omega)) (by (simp [maxLen, -List.length_flatMap]; try omega)) ?_ rfl
     intro v37 w52 x53 S
     have B := bx Hb B x53
     clear hR
     refine t_lit (T := intT) (l := [n]) (css := ([n]).map fun a => [I a]) int_flat S (fun w => bs_int1 _ w) rfl rfl rfl rfl (by simp [maxLen]) (litR_int _) ?_ rfl rfl
     intro u39 w54 x55 S
     have B := bx Hb B x55
     have hR := S.sl
     have S := S.f1
     refine t_cat int_flat e_int S hR rfl rfl rfl (by first | omega | (simp [-List.length_flatMap]; omega)) (by (simp [maxLen, -List.length_flatMap]; try omega)) ?_ rfl
     intro v40 w56 x57 S
     have B := B.trans x57
     clear hR
     have S := S.f1.tail
     have hR := (SlR.drop S.tail.sl (by omega))
     refine t_cat int_flat e_int S hR rfl rfl rfl (by first | omega | (simp [-List.length_flatMap]; omega)) (by (simp [maxLen, -List.length_flatMap]; try omega)) ?_ rfl
     intro v44 w58 x59 S
     have B := B.trans x59
     clear hR
     refine t_a rfl ?_ rfl
     refine t_d' ?_
     refine x_s ?_
     refine w_r ?_
     refine x_ret1 rfl rfl ?_
     exact ⟨_, rfl, by rw [hq]; exact S.f1.tail, B⟩
    ·refine t_lit (T := intT) (l := [n]) (css := ([n]).map fun a => [I a]) int_flat S (fun w => bs_int1 _ w) rfl rfl rfl rfl (by simp [maxLen]) (litR_int _) ?_ rfl rfl
     intro u39 w60 x61 S
     have B := bx Hb B x61
     have hR := (SlR.takeV S.tail.tail.sl (by omega))
     have S := S.f1
     refine t_cat0 int_flat e_int S hR rfl rfl rfl (by first | omega | (simp [-List.length_flatMap]; omega)) (by (simp [maxLen, -List.length_flatMap]; try omega)) ?_ rfl
     intro v37 w62 x63 S
     have B := bx Hb B x63
     clear hR
     have hR := S.tail.sl
     refine t_cat int_flat e_int S hR rfl rfl rfl (by first | omega | (simp [-List.length_flatMap]; omega)) (by (simp [maxLen, -List.length_flatMap]; try omega)) ?_ rfl
     intro v40 w64 x65 S
     have B := B.trans x65
     clear hR
     have S := S.f1.tail
     have hR := (SlR.drop S.tail.sl (by omega))
     refine t_cat int_flat e_int S hR rfl rfl rfl (by first | omega | (simp [-List.length_flatMap]; omega)) (by (simp [maxLen, -List.length_flatMap]; try omega)) ?_ rfl
     intro v44 w66 x67 S
     have B := B.trans x67
     clear hR
     refine t_a rfl ?_ rfl
     refine t_d' ?_
     refine x_s ?_
     refine w_r ?_
     refine x_ret1 rfl rfl ?_
     exact ⟨_, rfl, by rw [hq]; exact S.f1.tail, B⟩
   ·refine t_lit (T := intT) (l := [n]) (css := ([n]).map fun a => [I a]) int_flat S (fun w => bs_int1 _ w) rfl rfl rfl rfl (by simp [maxLen]) (litR_int _) ?_ rfl rfl
    intro u39 w68 x69 S
    have B := bx Hb B x69
    refine t_lit0 (T := intT) S bs_int0 rfl ?_ rfl rfl
    intro A33 w70 x71 S
    have B := bx Hb B x71
    have hR := (SlR.takeV S.tail.tail.sl (by omega))
    refine t_cat0 int_flat e_int S hR rfl rfl rfl (by first | omega | (simp [-List.length_flatMap]; omega)) (by (simp [maxLen, -List.length_flatMap]; try omega)) ?_ rfl
    intro v37 w72 x73 S
    have B := bx Hb B x73
    clear hR
    have hR := S.tail.sl
    refine t_cat int_flat e_int S hR rfl rfl rfl (by first | omega | (simp [-List.length_flatMap]; omega)) (by (simp [maxLen, -List.length_flatMap]; try omega)) ?_ rfl
    intro v40 w74 x75 S
    have B := B.trans x75
    clear hR
    have S := S.f1.tail
    have hR := (SlR.drop S.tail.sl (by omega))
    refine t_cat int_flat e_int S hR rfl rfl rfl (by first | omega | (simp [-List.length_flatMap]; omega)) (by (simp [maxLen, -List.length_flatMap]; try omega)) ?_ rfl
    intro v44 w76 x77 S
    have B := B.trans x77
    clear hR
    refine t_a rfl ?_ rfl
    refine t_d' ?_
    refine x_s ?_
    refine w_r ?_
    refine x_ret1 rfl rfl ?_
    exact ⟨_, rfl, by rw [hq]; exact S.f1.tail, B⟩
/-- The doors of a realm, ascending. -/
def ifsStep (r : Int) (acc : List Int) (x : Lnk) : List Int :=
  let a := if x.a = r then putL acc x.ai else acc
  if x.b = r then putL a x.bi else a
def ifs (l : List Lnk) (r : Int) : List Int := l.foldl (ifsStep r) []
theorem ifs_succ {l : List Lnk} {k : Nat} {x : Lnk} (h : l[k]? = some x) (r : Int) : ifs (l.take (k + 1)) r = ifsStep r (ifs (l.take k) r) x := by
  unfold ifs
  rw [List.take_add_one, h, List.foldl_append]
  rfl
theorem ifsStep_len (r : Int) (acc : List Int) (x : Lnk) : (ifsStep r acc x).length ≤ acc.length + 2 := by
  unfold ifsStep
  dsimp only
  have h1 := putL_len acc x.ai
  have h2 := putL_len (putL acc x.ai) x.bi
  have h3 := putL_len acc x.bi
  split <;> split <;> omega
theorem ifs_len (l : List Lnk) (r : Int) : (ifs l r).length ≤ 2 * l.length := by
  suffices h : ∀ (l : List Lnk) acc, (l.foldl (ifsStep r) acc).length ≤ acc.length + 2 * l.length by have := h l []; simp only [List.length_nil, Nat.zero_add] at this; exact this
  intro l
  induction l with
  | nil => simp
  | cons a t ih =>
    intro acc
    have h1 := ih (ifsStep r acc a)
    have h2 := ifsStep_len r acc a
    simp only [List.foldl_cons, List.length_cons]
    omega
theorem spec_Interfaces0 (t : Topo) (v : Value) (r : Int) (w : World) (h : VA topoT w v t) (hz : t.links.length ≤ 1048576) : Calls Tryz.prog 167 #[v, I r] w fun e w' => ∃ v fp, e = .returned v ∧ SlO intT 3 w.heap.size w' v (ifs t.links r) fp ∧ Below w.heap.size w w' := by
 have X0 := Below.refl w.heap.size w
 refine enter Tryz.func167 rfl Tryz.ntmps167 rfl ?_
 refine w_s ?_
 refine w_g ?_
 refine t_boxr ‹_› rfl ?_ rfl rfl
 intro p2 w78 x79 hp2
 replace h := h.below x79
 have X0 := ext_trans X0 x79
 have S := Sep.nil w78
 have B := Below.refl w78.heap.size w78
 have Hb := Nat.le_refl w78.heap.size
 refine t_a rfl ?_ rfl
 refine t_d ?_
 refine x_s ?_
 refine w_s ?_
 refine w_g ?_
 refine t_lit (T := intT) (css := []) (l := []) int_flat S bs_int0 rfl rfl rfl rfl (Nat.zero_le _) litR_nil ?_ rfl rfl
 intro u7 w80 x81 S
 have B := bx Hb B x81
 refine t_a rfl ?_ rfl
 refine t_d ?_
 refine x_s ?_
 iterate 2 refine w_s ?_
 refine w_g ?_
 refine t_a rfl ?_ rfl
 refine t_d ?_
 refine x_s ?_
 refine w_block ?_
 refine w_loop (X := Nat × Value) (fun x wq => (fun k q => k ≤ t.links.length ∧ Below w78.heap.size w78 wq ∧ Sep w78.heap.size wq [slO intT 3 q (ifs (t.links.take k) r)]) x.1 x.2) (fun x => (fun k q => [(6, I ((k : Int))), (5, q), (1, I r), (2, p2), (4, .slice none 0 0)]) x.1 x.2) (fun x => (fun k q => t.links.length - k) x.1 x.2) (0, _) ?_ ⟨rfl, rfl, rfl, rfl, rfl, trivial⟩ ?_
 ·exact ⟨by omega, B, S⟩
 rintro ⟨k, q⟩ w82 hI
 try dsimp only at hI ⊢
 obtain ⟨hk, B, S⟩ := hI
 have hl := ifs_len (t.links.take k) r
 rw [List.length_take] at hl
 iterate 2 refine w_s ?_
 refine w_g ?_
 refine t_m rfl ?_ rfl
 refine t_fld ln_topo_1 ‹_› fb_topo_1 rfl ?_ rfl
 intro p9 hp9
 refine t_lds ‹_› ab_s_link B rfl ?_ rfl
 intro v10 hv10
 refine t_len e_link ‹_› rfl rfl ?_ rfl
 refine t_lss rfl rfl ?_ rfl
 refine t_d ?_
 refine x_s ?_
 refine w_if rfl ?_ ?_
 ·intro hlt
  refine w_k ?_
  refine x_s ?_
  refine w_s ?_
  refine w_block ?_
  iterate 2 refine w_s ?_
  refine w_g ?_
  refine t_fld ln_topo_1 ‹_› fb_topo_1 rfl ?_ rfl
  intro p15 hp15
  refine t_lds ‹_› ab_s_link B rfl ?_ rfl
  intro v16 hv16
  refine t_m rfl ?_ rfl
  obtain ⟨e18, he18⟩ : ∃ e, (t.links)[k]? = some e := getx (by omega)
  refine t_idx e_link (k := k) ‹_› he18 B rfl rfl (by first | rfl | omega) ?_ rfl
  intro p18 hp18
  refine t_fld ln_link_0 ‹_› fb_link_0 rfl ?_ rfl
  intro p19 hp19
  refine t_ldi ‹_› ab_int B rfl ?_ rfl
  refine t_m rfl ?_ rfl
  refine t_eql rfl rfl ?_ rfl
  refine t_d ?_
  refine x_s ?_
  have hs := ifs_succ he18 r
  unfold ifsStep at hs
  dsimp only at hs
  have hl2 := putL_len (ifs (t.links.take k) r) e18.ai
  refine w_if rfl ?_ ?_
  ·intro h1
   refine w_g ?_
   refine t_m rfl ?_ rfl
   refine t_fld ln_topo_1 ‹_› fb_topo_1 rfl ?_ rfl
   intro p24 hp24
   refine t_lds ‹_› ab_s_link B rfl ?_ rfl
   intro v25 hv25
   refine t_m rfl ?_ rfl
   refine t_idx e_link (k := k) ‹_› he18 B rfl rfl (by first | rfl | omega) ?_ rfl
   intro p27 hp27
   refine t_fld ln_link_1 ‹_› fb_link_1 rfl ?_ rfl
   intro p28 hp28
   refine t_ldi ‹_› ab_int B rfl ?_ rfl
   refine t_f Tryz.call177 rfl (spec_l5Put e18.ai S (by omega)) ?_ rfl
   rintro e w83 ⟨v30, rfl, S, x84⟩
   refine ⟨_, rfl, ?_⟩
   have B := B.trans x84
   refine t_a rfl ?_ rfl
   refine t_d ?_
   refine x_s ?_
   refine w_s ?_
   refine w_g ?_
   refine t_fld ln_topo_1 ‹_› fb_topo_1 rfl ?_ rfl
   intro p31 hp31
   refine t_lds ‹_› ab_s_link B rfl ?_ rfl
   intro v32 hv32
   refine t_m rfl ?_ rfl
   refine t_idx e_link (k := k) ‹_› he18 B rfl rfl (by first | rfl | omega) ?_ rfl
   intro p34 hp34
   refine t_fld ln_link_2 ‹_› fb_link_2 rfl ?_ rfl
   intro p35 hp35
   refine t_ldi ‹_› ab_int B rfl ?_ rfl
   refine t_m rfl ?_ rfl
   refine t_eql rfl rfl ?_ rfl
   refine t_d ?_
   refine x_s ?_
   refine w_if rfl ?_ ?_
   ·intro h2
    refine w_g ?_
    refine t_m rfl ?_ rfl
    refine t_fld ln_topo_1 ‹_› fb_topo_1 rfl ?_ rfl
    intro p40 hp40
    refine t_lds ‹_› ab_s_link B rfl ?_ rfl
    intro v41 hv41
    refine t_m rfl ?_ rfl
    refine t_idx e_link (k := k) ‹_› he18 B rfl rfl (by first | rfl | omega) ?_ rfl
    intro p43 hp43
    refine t_fld ln_link_3 ‹_› fb_link_3 rfl ?_ rfl
    intro p44 hp44
    refine t_ldi ‹_› ab_int B rfl ?_ rfl
    refine t_f Tryz.call177 rfl (spec_l5Put e18.bi S (by omega)) ?_ rfl
    rintro e w85 ⟨v46, rfl, S, x86⟩
    refine ⟨_, rfl, ?_⟩
    have B := B.trans x86
    refine t_a rfl ?_ rfl
    refine t_d ?_
    refine x_b ?_
    refine x_s ?_
    refine w_g ?_
    refine t_m rfl ?_ rfl
    refine t_add rfl rfl (by omega) ?_ rfl
    refine t_a rfl ?_ rfl
    refine t_d ?_
    refine x_r (X := Nat × Value) (k + 1, v46) ?_ (by exact ⟨rfl, rfl, rfl, rfl, rfl, trivial⟩) (by (try dsimp only); omega)
    try dsimp only
    rw [hs, if_pos h2, if_pos h1]
    exact ⟨by omega, B, S⟩
   ·intro h2
    refine w_k ?_
    refine x_b ?_
    refine x_s ?_
    refine w_g ?_
    refine t_m rfl ?_ rfl
    refine t_add rfl rfl (by omega) ?_ rfl
    refine t_a rfl ?_ rfl
    refine t_d ?_
    refine x_r (X := Nat × Value) (k + 1, v30) ?_ (by exact ⟨rfl, rfl, rfl, rfl, rfl, trivial⟩) (by (try dsimp only); omega)
    try dsimp only
    rw [hs, if_neg h2, if_pos h1]
    exact ⟨by omega, B, S⟩
  ·intro h1
   refine w_k ?_
   refine x_s ?_
   refine w_s ?_
   refine w_g ?_
   refine t_fld ln_topo_1 ‹_› fb_topo_1 rfl ?_ rfl
   intro p31 hp31
   refine t_lds ‹_› ab_s_link B rfl ?_ rfl
   intro v32 hv32
   refine t_m rfl ?_ rfl
   refine t_idx e_link (k := k) ‹_› he18 B rfl rfl (by first | rfl | omega) ?_ rfl
   intro p34 hp34
   refine t_fld ln_link_2 ‹_› fb_link_2 rfl ?_ rfl
   intro p35 hp35
   refine t_ldi ‹_› ab_int B rfl ?_ rfl
   refine t_m rfl ?_ rfl
   refine t_eql rfl rfl ?_ rfl
   refine t_d ?_
   refine x_s ?_
   refine w_if rfl ?_ ?_
   ·intro h2
    refine w_g ?_
    refine t_m rfl ?_ rfl
    refine t_fld ln_topo_1 ‹_› fb_topo_1 rfl ?_ rfl
    intro p40 hp40
    refine t_lds ‹_› ab_s_link B rfl ?_ rfl
    intro v41 hv41
    refine t_m rfl ?_ rfl
    refine t_idx e_link (k := k) ‹_› he18 B rfl rfl (by first | rfl | omega) ?_ rfl
    intro p43 hp43
    refine t_fld ln_link_3 ‹_› fb_link_3 rfl ?_ rfl
    intro p44 hp44
    refine t_ldi ‹_› ab_int B rfl ?_ rfl
    refine t_f Tryz.call177 rfl (spec_l5Put e18.bi S (by omega)) ?_ rfl
    rintro e w87 ⟨v46, rfl, S, x88⟩
    refine ⟨_, rfl, ?_⟩
    have B := B.trans x88
    refine t_a rfl ?_ rfl
    refine t_d ?_
    refine x_b ?_
    refine x_s ?_
    refine w_g ?_
    refine t_m rfl ?_ rfl
    refine t_add rfl rfl (by omega) ?_ rfl
    refine t_a rfl ?_ rfl
    refine t_d ?_
    refine x_r (X := Nat × Value) (k + 1, v46) ?_ (by exact ⟨rfl, rfl, rfl, rfl, rfl, trivial⟩) (by (try dsimp only); omega)
    try dsimp only
    rw [hs, if_pos h2, if_neg h1]
    exact ⟨by omega, B, S⟩
   ·intro h2
    refine w_k ?_
    refine x_b ?_
    refine x_s ?_
    refine w_g ?_
    refine t_m rfl ?_ rfl
    refine t_add rfl rfl (by omega) ?_ rfl
    refine t_a rfl ?_ rfl
    refine t_d ?_
    refine x_r (X := Nat × Value) (k + 1, q) ?_ (by exact ⟨rfl, rfl, rfl, rfl, rfl, trivial⟩) (by (try dsimp only); omega)
    try dsimp only
    rw [hs, if_neg h2, if_neg h1]
    exact ⟨by omega, B, S⟩
 ·intro hge
  refine w_exit ?_
  iterate 2 refine x_then_exit ?_
  refine x_block_exit ?_
  refine x_s ?_
  refine w_s ?_
  refine w_g ?_
  refine t_m rfl ?_ rfl
  refine t_a rfl ?_ rfl
  refine t_d ?_
  refine x_s ?_
  refine w_r ?_
  refine x_ret1 rfl rfl ?_
  obtain ⟨fp, hO⟩ := (S.mono X0.size).head
  rw [List.take_of_length_le (by omega)] at hO
  exact ⟨_, fp, rfl, hO, ext_trans X0 B⟩
theorem spec_Interfaces (A : List ASd) (L : List Lnk) (v : Value) (r : Int) (w : World) (h : VA topoT w v ⟨A, L⟩) (hz : L.length ≤ 1048576) : Calls Tryz.prog 167 #[v, I r] w fun e w' => ∃ v fp, e = .returned v ∧ SlO intT 3 w.heap.size w' v (ifs L r) fp ∧ Below w.heap.size w w' :=
  spec_Interfaces0 ⟨A, L⟩ v r w h hz
/-- The doors of a realm of one kind. -/
def ifsK (t : Topo) (r k : Int) : List Int := (ifs t.links r).filter fun d => decide (ifKind t r d = k)
theorem filt_succ {α : Type} (p : α → Bool) {l : List α} {k : Nat} {x : α} (h : l[k]? = some x) : (l.take (k + 1)).filter p = (l.take k).filter p ++ (if p x then [x] else []) := by
  rw [List.take_add_one, h, List.filter_append]
  cases hp : p x <;> simp [hp]
theorem spec_InterfacesOfKind (t : Topo) (v : Value) (r kd : Int) (w : World) (h : VA topoT w v t) (hz : sz_topo t ≤ 500000) : Calls Tryz.prog 152 #[v, I r, I kd] w fun e w' => ∃ v fp, e = .returned v ∧ SlO intT 3 w.heap.size w' v (ifsK t r kd) fp ∧ Below w.heap.size w w' := by
 have hz1 : t.links.length ≤ 500000 := by have := hz; simp only [sz_topo] at this; omega
 have hl := ifs_len t.links r
 have X0 := Below.refl w.heap.size w
 refine enter Tryz.func152 rfl Tryz.ntmps152 rfl ?_
 refine w_s ?_
 refine w_g ?_
 refine t_boxr ‹_› rfl ?_ rfl rfl
 intro p3 w89 x90 hp3
 replace h := h.below x90
 have X0 := ext_trans X0 x90
 have S := Sep.nil w89
 have B := Below.refl w89.heap.size w89
 have Hb := Nat.le_refl w89.heap.size
 refine t_a rfl ?_ rfl
 refine t_d ?_
 refine x_s ?_
 refine w_s ?_
 refine w_g ?_
 refine t_lit (T := intT) (css := []) (l := []) int_flat S bs_int0 rfl rfl rfl rfl (Nat.zero_le _) litR_nil ?_ rfl rfl
 intro u10 w91 x92 S
 have B := bx Hb B x92
 refine t_a rfl ?_ rfl
 refine t_d ?_
 refine x_s ?_
 refine w_s ?_
 refine w_g ?_
 refine t_lda ‹_› ab_topo sb_topo B rfl ?_ rfl
 intro v11 hv11
 obtain ⟨v11_0, v11_1, rfl, hv11_0, hv11_1⟩ := topo_va hv11
 refine t_m rfl ?_ rfl
 refine t_c Tryz.call167 rfl (spec_Interfaces t.ases t.links _ _ _ (by first | assumption | exact VA.below ‹_› B | exact topo_mkv (by first | assumption | exact SlR.below ‹_› B) (by first | assumption | exact SlR.below ‹_› B)) (by (try dsimp only); omega)) ?_ rfl rfl
 rintro e w93 ⟨v13, fpv13, rfl, hOv13, x94⟩
 refine ⟨_, rfl, x94, ?_⟩
 have S := S.add (o := slO _ _ _ _) x94 hOv13
 have B := bx Hb B x94
 refine t_a rfl ?_ rfl
 refine t_d ?_
 refine x_s ?_
 iterate 2 refine w_s ?_
 refine w_g ?_
 refine t_a rfl ?_ rfl
 refine t_d ?_
 refine x_s ?_
 refine w_block ?_
 refine w_loop (X := Nat × Value) (fun x wq => (fun k q => k ≤ (ifs t.links r).length ∧ Below w89.heap.size w89 wq ∧ Sep w89.heap.size wq [slO intT 3 q (((ifs t.links r).take k).filter fun d => decide (ifKind t r d = kd)), slO intT 3 v13 (ifs t.links r)]) x.1 x.2) (fun x => (fun k q => [(9, I ((k : Int))), (7, q), (1, I r), (2, I kd), (3, p3), (6, .slice none 0 0), (8, v13)]) x.1 x.2) (fun x => (fun k q => (ifs t.links r).length - k) x.1 x.2) (0, _) ?_ ⟨rfl, rfl, rfl, rfl, rfl, rfl, rfl, trivial⟩ ?_
 ·exact ⟨by omega, B, S.f1⟩
 rintro ⟨k, q⟩ w95 hI
 try dsimp only at hI ⊢
 obtain ⟨hk, B, S⟩ := hI
 have hl2 := List.length_filter_le (fun d => decide (ifKind t r d = kd)) ((ifs t.links r).take k)
 rw [List.length_take] at hl2
 iterate 2 refine w_s ?_
 refine w_g ?_
 iterate 2 refine t_m rfl ?_ rfl
 refine t_len e_int (S.tail.sl) rfl rfl ?_ rfl
 refine t_lss rfl rfl ?_ rfl
 refine t_d ?_
 refine x_s ?_
 refine w_if rfl ?_ ?_
 ·intro hlt
  refine w_k ?_
  refine x_s ?_
  refine w_s ?_
  refine w_block ?_
  refine w_s ?_
  refine w_draw (.st .take 0 (.st .take 1 (.st .take 2 (.st .take 3 (.st .take 4 (.st .take 5 (.st .take 7 (.st .run 6 (.st .take 8 .done))))))))) mixed (by kernel_rfl) ?_
  intro w96 x97
  have B := bx Hb B x97
  have S := S.below x97
  refine t_lda ‹_› ab_topo sb_topo B rfl ?_ rfl
  intro v20 hv20
  obtain ⟨v20_0, v20_1, rfl, hv20_0, hv20_1⟩ := topo_va hv20
  iterate 3 refine t_m rfl ?_ rfl
  obtain ⟨e24, he24⟩ : ∃ e, ((ifs t.links r))[k]? = some e := getx (by omega)
  refine t_idx e_int (k := k) (S.tail.sl) he24 (Below.refl _ _) rfl rfl (by first | rfl | omega) ?_ rfl
  intro p24 hp24
  refine t_ldi ‹_› ab_int (Below.refl _ _) rfl ?_ rfl
  refine t_m rfl ?_ rfl
  refine t_x Tryz.call168 rfl (va1 (by first | assumption | exact VA.below ‹_› B | exact topo_mkv (by first | assumption | exact SlR.below ‹_› B) (by first | assumption | exact SlR.below ‹_› B)) fun cs h => spec_ifKind _ cs _ _ _ h (by omega)) ?_ rfl rfl
  intro w98 x99
  have B := bx Hb B x99
  have S := S.below x99
  refine t_eql rfl rfl ?_ rfl
  refine t_d' ?_
  refine x_s ?_
  have hf := filt_succ (fun d => decide (ifKind t r d = kd)) he24
  refine w_if rfl ?_ ?_
  ·intro h1
   refine w_g ?_
   iterate 3 refine t_m rfl ?_ rfl
   refine t_idx e_int (k := k) (S.tail.sl) he24 (Below.refl _ _) rfl rfl (by first | rfl | omega) ?_ rfl
   intro p32 hp32
   refine t_ldi ‹_› ab_int (Below.refl _ _) rfl ?_ rfl
   refine t_lit (T := intT) (l := [e24]) (css := ([e24]).map fun a => [I a]) int_flat S (fun w => bs_int1 _ w) rfl rfl rfl rfl (by simp [maxLen]) (litR_int _) ?_ rfl rfl
   intro u34 w100 x101 S
   have B := bx Hb B x101
   have hR := S.sl
   have S := S.f1
   refine t_cat int_flat e_int S hR rfl rfl rfl (by first | omega | (simp [-List.length_flatMap]; omega)) (by (simp [maxLen, -List.length_flatMap]; try omega)) ?_ rfl
   intro v35 w102 x103 S
   have B := B.trans x103
   clear hR
   have S := S.f1.tail
   refine t_a rfl ?_ rfl
   refine t_d ?_
   refine x_b ?_
   refine x_s ?_
   refine w_g ?_
   refine t_m rfl ?_ rfl
   refine t_add rfl rfl (by omega) ?_ rfl
   refine t_a rfl ?_ rfl
   refine t_d ?_
   refine x_r (X := Nat × Value) (k + 1, v35) ?_ (by exact ⟨rfl, rfl, rfl, rfl, rfl, rfl, rfl, trivial⟩) (by (try dsimp only); omega)
   try dsimp only
   rw [hf, if_pos (by simpa using h1)]
   exact ⟨by omega, B, S⟩
  ·intro h1
   refine w_k ?_
   refine x_b ?_
   refine x_s ?_
   refine w_g ?_
   refine t_m rfl ?_ rfl
   refine t_add rfl rfl (by omega) ?_ rfl
   refine t_a rfl ?_ rfl
   refine t_d ?_
   refine x_r (X := Nat × Value) (k + 1, q) ?_ (by exact ⟨rfl, rfl, rfl, rfl, rfl, rfl, rfl, trivial⟩) (by (try dsimp only); omega)
   try dsimp only
   rw [hf, if_neg (by simpa using h1), List.append_nil]
   exact ⟨by omega, B, S⟩
 ·intro hge
  refine w_exit ?_
  iterate 2 refine x_then_exit ?_
  refine x_block_exit ?_
  refine x_s ?_
  refine w_s ?_
  refine w_g ?_
  refine t_m rfl ?_ rfl
  refine t_a rfl ?_ rfl
  refine t_d ?_
  refine x_s ?_
  refine w_r ?_
  refine x_ret1 rfl rfl ?_
  obtain ⟨fp, hO⟩ := (S.mono X0.size).head
  rw [List.take_of_length_le (by omega)] at hO
  exact ⟨_, fp, rfl, hO, ext_trans X0 B⟩
end Go.Proofs.YtdaecknfahgddaaGreat
namespace Go.Proofs.YtdaecknfahgddaaGreat
open Go.RowKit
set_option linter.unusedVariables false
set_option maxRecDepth 20000
theorem ret_bool {a b : Bool} (h : a = b) : Ending.returned (.bool a) = .returned (.bool b) := by rw [h]
/-- Sums modulo the prime, of residues alone. -/
def addM (b s : Int) : Int := if inR b 0 2147483646 && inR s 0 2147483646 then (b + s) % 2147483647 else 0
theorem impl_AddMod (b s : Int) (w : World) : Calls Tryz.prog 161 #[I b, I s] w fun e w' => e = .returned (I (addM b s)) ∧ w = w' := by
 have X0 := Below.refl w.heap.size w
 refine enter Tryz.func161 rfl Tryz.ntmps161 rfl ?_
 refine w_s ?_
 refine w_g ?_
 have S := Sep.nil w
 have B := Below.refl w.heap.size w
 have Hb := Nat.le_refl w.heap.size
 refine t_a rfl ?_ rfl
 refine t_d ?_
 refine x_s ?_
 iterate 2 refine w_s ?_
 refine w_g ?_
 refine t_m rfl ?_ rfl
 refine t_calls Tryz.call106 rfl (impl_isResidue _ _) ?_ rfl rfl
 refine t_notb rfl ?_ rfl
 refine t_m rfl ?_ rfl
 refine t_part (t := 8) rfl ?_ ?_
 ·intro h1
  iterate 3 refine t_off rfl rfl rfl ?_ rfl
  refine t_q rfl rfl ?_ rfl
  refine t_d ?_
  refine x_s ?_
  refine w_yes rfl ?_
  refine w_s ?_
  refine w_g ?_
  refine t_a rfl ?_ rfl
  refine t_d ?_
  refine x_s ?_
  refine w_r ?_
  refine x_t ?_
  refine x_ret1 rfl rfl ?_
  have h1' : inR b 0 2147483646 = false := by simpa using h1
  exact ⟨by simp [addM, h1'], rfl⟩
 ·intro h1
  have h1' : inR b 0 2147483646 = true := by simpa using h1
  have r1 := inR_iff.1 h1'
  refine t_on rfl rfl ?_
  refine t_m rfl ?_ rfl
  refine t_on rfl rfl ?_
  refine t_calls Tryz.call106 rfl (impl_isResidue _ _) ?_ rfl rfl
  refine t_on rfl rfl ?_
  refine t_notb rfl ?_ rfl
  refine t_p rfl rfl ?_ rfl
  refine t_d ?_
  refine x_s ?_
  refine w_ifb rfl ?_ ?_
  ·intro h2
   refine w_s ?_
   refine w_g ?_
   refine t_a rfl ?_ rfl
   refine t_d ?_
   refine x_s ?_
   refine w_r ?_
   refine x_t ?_
   refine x_ret1 rfl rfl ?_
   have h2' : inR s 0 2147483646 = false := by simpa using h2
   exact ⟨by simp [addM, h1', h2'], rfl⟩
  ·intro h2
   have h2' : inR s 0 2147483646 = true := by simpa using h2
   have r2 := inR_iff.1 h2'
   refine w_k ?_
   refine x_s ?_
   refine w_s ?_
   refine w_g ?_
   iterate 2 refine t_m rfl ?_ rfl
   refine t_add rfl rfl (by omega) ?_ rfl
   refine t_rem rfl rfl (by omega) ?_ rfl
   refine t_a rfl ?_ rfl
   refine t_d ?_
   refine x_s ?_
   refine w_r ?_
   refine x_ret1 rfl rfl ?_
   exact ⟨by simp [addM, h1', h2'], rfl⟩
theorem spec_AddMod (b s : Int) (w : World) : Calls Tryz.prog 176 #[I b, I s] w fun e w' => e = .returned (I (addM b s)) ∧ w = w' := by
 have X0 := Below.refl w.heap.size w
 refine enter Tryz.func176 rfl Tryz.ntmps176 rfl ?_
 refine w_s ?_
 refine w_g ?_
 have S := Sep.nil w
 have B := Below.refl w.heap.size w
 have Hb := Nat.le_refl w.heap.size
 refine t_a rfl ?_ rfl
 refine t_d ?_
 refine x_s ?_
 iterate 2 refine w_s ?_
 refine w_g ?_
 refine t_m rfl ?_ rfl
 refine t_calls Tryz.call108 rfl (spec_l3Ok _ _) ?_ rfl rfl
 refine t_notb rfl ?_ rfl
 refine t_m rfl ?_ rfl
 refine t_part (t := 8) rfl ?_ ?_
 ·intro h1
  iterate 3 refine t_off rfl rfl rfl ?_ rfl
  refine t_q rfl rfl ?_ rfl
  refine t_d ?_
  refine x_s ?_
  refine w_yes rfl ?_
  refine w_s ?_
  refine w_g ?_
  refine t_a rfl ?_ rfl
  refine t_d ?_
  refine x_s ?_
  refine w_r ?_
  refine x_t ?_
  refine x_ret1 rfl rfl ?_
  have h1' : inR b 0 2147483646 = false := by simpa using h1
  exact ⟨by simp [addM, h1'], rfl⟩
 ·intro h1
  have h1' : inR b 0 2147483646 = true := by simpa using h1
  have r1 := inR_iff.1 h1'
  refine t_on rfl rfl ?_
  refine t_m rfl ?_ rfl
  refine t_on rfl rfl ?_
  refine t_calls Tryz.call108 rfl (spec_l3Ok _ _) ?_ rfl rfl
  refine t_on rfl rfl ?_
  refine t_notb rfl ?_ rfl
  refine t_p rfl rfl ?_ rfl
  refine t_d ?_
  refine x_s ?_
  refine w_ifb rfl ?_ ?_
  ·intro h2
   refine w_s ?_
   refine w_g ?_
   refine t_a rfl ?_ rfl
   refine t_d ?_
   refine x_s ?_
   refine w_r ?_
   refine x_t ?_
   refine x_ret1 rfl rfl ?_
   have h2' : inR s 0 2147483646 = false := by simpa using h2
   exact ⟨by simp [addM, h1', h2'], rfl⟩
  ·intro h2
   have h2' : inR s 0 2147483646 = true := by simpa using h2
   have r2 := inR_iff.1 h2'
   refine w_k ?_
   refine x_s ?_
   refine w_s ?_
   refine w_g ?_
   iterate 2 refine t_m rfl ?_ rfl
   refine t_add rfl rfl (by omega) ?_ rfl
   refine t_rem rfl rfl (by omega) ?_ rfl
   refine t_a rfl ?_ rfl
   refine t_d ?_
   refine x_s ?_
   refine w_r ?_
   refine x_ret1 rfl rfl ?_
   exact ⟨by simp [addM, h1', h2'], rfl⟩
end Go.Proofs.YtdaecknfahgddaaGreat
namespace Go.Proofs.YtdaecknfahgddaaGreat
open Go.RowKit
set_option linter.unusedVariables false
def isRev (k : Int) : Bool := k == 1 || k == 3
/-- The interface through which a packet enters at hop i, and through which it leaves. -/
def partIn (p : Part) (i : Nat) : Int := match p.hops[i]? with
  | none => 0
  | some h => if isRev p.kind then h.eg else h.ing
def partOut (p : Part) (i : Nat) : Int := match p.hops[i]? with
  | none => 0
  | some h => if isRev p.kind then h.ing else h.eg
theorem impl_IsReversed (k : Int) (w : World) : Calls Tryz.prog 128 #[I k] w fun e w' => e = .returned (.bool (isRev k)) ∧ w = w' := by
  obtain ⟨q, Hq⟩ : ∃ q, Hid (q = isRev k) := ⟨_, rfl⟩
  rw [← Hq.out]
  cases h1 : (k == 1) <;> cases h2 : (k == 3)
  all_goals
    go_enter Tryz.func128, Tryz.ntmps128
    go_wp2
    go_ret
    exact ⟨by rw [Hq.out]; simp [isRev, h1, h2], rfl⟩
theorem spec_IsReversed (k : Int) (w : World) : Calls Tryz.prog 136 #[I k] w fun e w' => e = .returned (.bool (isRev k)) ∧ w = w' := by
  obtain ⟨q, Hq⟩ : ∃ q, Hid (q = isRev k) := ⟨_, rfl⟩
  rw [← Hq.out]
  cases h1 : (k == 1) <;> cases h2 : (k == 3)
  all_goals
    go_enter Tryz.func136, Tryz.ntmps136
    go_wp2
    go_ret
    exact ⟨by rw [Hq.out]; simp [isRev, h1, h2], rfl⟩
theorem impl_PartIngress (p : Part) (cs : List Value) (i : Int) (w : World) (h : partT.R w cs p) (hz : p.hops.length ≤ 1048576) (h0 : 0 ≤ i) : Calls Tryz.prog 81 #[.agg cs.toArray, I i] w fun e w' => e = .returned (I (partIn p i.toNat)) ∧ Below w.heap.size w w' := by
  obtain ⟨A, c, rfl, ⟨h, _⟩⟩ := part_form h
  obtain ⟨y, Hy⟩ : ∃ y, Hid (y = partIn p i.toNat) := ⟨_, rfl⟩
  rw [← Hy.out]
  obtain ⟨k, rfl⟩ := Int.eq_ofNat_of_zero_le h0
  rw [Int.toNat_natCast] at Hy
  obtain ⟨n, H⟩ : ∃ n, Hid (n = p.hops.length) := ⟨_, rfl⟩
  have hn : n ≤ 1048576 := by rw [H.out]; exact hz
  clear hz h0
  rw [← H.out] at h ⊢
  by_cases hlt : k < n
  · obtain ⟨g, o, q, x, e, hg, hxk, c0, c1, c2, c3, c4⟩ := hop_at h (by rw [← H.out]; exact hlt)
    rw [← H.out] at e
    cases e
    have HY : Hid (y = if isRev p.kind then x.eg else x.ing) := by show y = _; rw [Hy.out]; unfold partIn; rw [hxk.out]
    have hin : Hid (inR (k : Int) 0 ((n : Int) - 1) = true) := inR_yes (by omega) (by omega)
    cases hr : isRev p.kind
    all_goals
      rw [hr] at HY
      go_enter Tryz.func81, Tryz.ntmps81
      go_wp2_with (first | (go_at_call 61; refine (impl_InRange _ _ _ _).mono ?_; rintro e w1 ⟨rfl, rfl⟩; rw [hin.out]) | (go_at_call 128; refine (impl_IsReversed _ _).mono ?_; rintro e w1 ⟨rfl, rfl⟩))
      go_ret
      exact ⟨by rw [HY.out]; rfl, ext_alloc1 _ _⟩
  · have HY : Hid (y = 0) := by show y = _; rw [Hy.out]; unfold partIn; rw [List.getElem?_eq_none (by rw [← H.out]; omega)]
    have hin : Hid (inR (k : Int) 0 ((n : Int) - 1) = false) := inR_hi (by omega)
    go_enter Tryz.func81, Tryz.ntmps81
    go_wp2_with (first | (go_at_call 61; refine (impl_InRange _ _ _ _).mono ?_; rintro e w1 ⟨rfl, rfl⟩; rw [hin.out]))
    go_ret
    exact ⟨by rw [HY.out]; rfl, ext_alloc1 _ _⟩
theorem impl_PartEgress (p : Part) (cs : List Value) (i : Int) (w : World) (h : partT.R w cs p) (hz : p.hops.length ≤ 1048576) (h0 : 0 ≤ i) : Calls Tryz.prog 80 #[.agg cs.toArray, I i] w fun e w' => e = .returned (I (partOut p i.toNat)) ∧ Below w.heap.size w w' := by
  obtain ⟨A, c, rfl, ⟨h, _⟩⟩ := part_form h
  obtain ⟨y, Hy⟩ : ∃ y, Hid (y = partOut p i.toNat) := ⟨_, rfl⟩
  rw [← Hy.out]
  obtain ⟨k, rfl⟩ := Int.eq_ofNat_of_zero_le h0
  rw [Int.toNat_natCast] at Hy
  obtain ⟨n, H⟩ : ∃ n, Hid (n = p.hops.length) := ⟨_, rfl⟩
  have hn : n ≤ 1048576 := by rw [H.out]; exact hz
  clear hz h0
  rw [← H.out] at h ⊢
  by_cases hlt : k < n
  · obtain ⟨g, o, q, x, e, hg, hxk, c0, c1, c2, c3, c4⟩ := hop_at h (by rw [← H.out]; exact hlt)
    rw [← H.out] at e
    cases e
    have HY : Hid (y = if isRev p.kind then x.ing else x.eg) := by show y = _; rw [Hy.out]; unfold partOut; rw [hxk.out]
    have hin : Hid (inR (k : Int) 0 ((n : Int) - 1) = true) := inR_yes (by omega) (by omega)
    cases hr : isRev p.kind
    all_goals
      rw [hr] at HY
      go_enter Tryz.func80, Tryz.ntmps80
      go_wp2_with (first | (go_at_call 61; refine (impl_InRange _ _ _ _).mono ?_; rintro e w1 ⟨rfl, rfl⟩; rw [hin.out]) | (go_at_call 128; refine (impl_IsReversed _ _).mono ?_; rintro e w1 ⟨rfl, rfl⟩))
      go_ret
      exact ⟨by rw [HY.out]; rfl, ext_alloc1 _ _⟩
  · have HY : Hid (y = 0) := by show y = _; rw [Hy.out]; unfold partOut; rw [List.getElem?_eq_none (by rw [← H.out]; omega)]
    have hin : Hid (inR (k : Int) 0 ((n : Int) - 1) = false) := inR_hi (by omega)
    go_enter Tryz.func80, Tryz.ntmps80
    go_wp2_with (first | (go_at_call 61; refine (impl_InRange _ _ _ _).mono ?_; rintro e w1 ⟨rfl, rfl⟩; rw [hin.out]))
    go_ret
    exact ⟨by rw [HY.out]; rfl, ext_alloc1 _ _⟩
theorem spec_PartIngress (p : Part) (cs : List Value) (i : Int) (w : World) (h : partT.R w cs p) (hz : p.hops.length ≤ 1048576) (h0 : 0 ≤ i) : Calls Tryz.prog 82 #[.agg cs.toArray, I i] w fun e w' => e = .returned (I (partIn p i.toNat)) ∧ Below w.heap.size w w' := by
  obtain ⟨A, c, rfl, ⟨h, _⟩⟩ := part_form h
  obtain ⟨y, Hy⟩ : ∃ y, Hid (y = partIn p i.toNat) := ⟨_, rfl⟩
  rw [← Hy.out]
  obtain ⟨k, rfl⟩ := Int.eq_ofNat_of_zero_le h0
  rw [Int.toNat_natCast] at Hy
  obtain ⟨n, H⟩ : ∃ n, Hid (n = p.hops.length) := ⟨_, rfl⟩
  have hn : n ≤ 1048576 := by rw [H.out]; exact hz
  clear hz h0
  rw [← H.out] at h ⊢
  by_cases hlt : k < n
  · obtain ⟨g, o, q, x, e, hg, hxk, c0, c1, c2, c3, c4⟩ := hop_at h (by rw [← H.out]; exact hlt)
    rw [← H.out] at e
    cases e
    have HY : Hid (y = if isRev p.kind then x.eg else x.ing) := by show y = _; rw [Hy.out]; unfold partIn; rw [hxk.out]
    have hin : Hid (inR (k : Int) 0 ((n : Int) - 1) = true) := inR_yes (by omega) (by omega)
    cases hr : isRev p.kind
    all_goals
      rw [hr] at HY
      go_enter Tryz.func82, Tryz.ntmps82
      go_wp2_with (first | (go_at_call 64; refine (spec_l1In _ _ _ _).mono ?_; rintro e w1 ⟨rfl, rfl⟩; rw [hin.out]) | (go_at_call 136; refine (spec_IsReversed _ _).mono ?_; rintro e w1 ⟨rfl, rfl⟩))
      go_ret
      exact ⟨by rw [HY.out]; rfl, ext_alloc1 _ _⟩
  · have HY : Hid (y = 0) := by show y = _; rw [Hy.out]; unfold partIn; rw [List.getElem?_eq_none (by rw [← H.out]; omega)]
    have hin : Hid (inR (k : Int) 0 ((n : Int) - 1) = false) := inR_hi (by omega)
    go_enter Tryz.func82, Tryz.ntmps82
    go_wp2_with (first | (go_at_call 64; refine (spec_l1In _ _ _ _).mono ?_; rintro e w1 ⟨rfl, rfl⟩; rw [hin.out]))
    go_ret
    exact ⟨by rw [HY.out]; rfl, ext_alloc1 _ _⟩
theorem spec_PartEgress (p : Part) (cs : List Value) (i : Int) (w : World) (h : partT.R w cs p) (hz : p.hops.length ≤ 1048576) (h0 : 0 ≤ i) : Calls Tryz.prog 83 #[.agg cs.toArray, I i] w fun e w' => e = .returned (I (partOut p i.toNat)) ∧ Below w.heap.size w w' := by
  obtain ⟨A, c, rfl, ⟨h, _⟩⟩ := part_form h
  obtain ⟨y, Hy⟩ : ∃ y, Hid (y = partOut p i.toNat) := ⟨_, rfl⟩
  rw [← Hy.out]
  obtain ⟨k, rfl⟩ := Int.eq_ofNat_of_zero_le h0
  rw [Int.toNat_natCast] at Hy
  obtain ⟨n, H⟩ : ∃ n, Hid (n = p.hops.length) := ⟨_, rfl⟩
  have hn : n ≤ 1048576 := by rw [H.out]; exact hz
  clear hz h0
  rw [← H.out] at h ⊢
  by_cases hlt : k < n
  · obtain ⟨g, o, q, x, e, hg, hxk, c0, c1, c2, c3, c4⟩ := hop_at h (by rw [← H.out]; exact hlt)
    rw [← H.out] at e
    cases e
    have HY : Hid (y = if isRev p.kind then x.ing else x.eg) := by show y = _; rw [Hy.out]; unfold partOut; rw [hxk.out]
    have hin : Hid (inR (k : Int) 0 ((n : Int) - 1) = true) := inR_yes (by omega) (by omega)
    cases hr : isRev p.kind
    all_goals
      rw [hr] at HY
      go_enter Tryz.func83, Tryz.ntmps83
      go_wp2_with (first | (go_at_call 64; refine (spec_l1In _ _ _ _).mono ?_; rintro e w1 ⟨rfl, rfl⟩; rw [hin.out]) | (go_at_call 136; refine (spec_IsReversed _ _).mono ?_; rintro e w1 ⟨rfl, rfl⟩))
      go_ret
      exact ⟨by rw [HY.out]; rfl, ext_alloc1 _ _⟩
  · have HY : Hid (y = 0) := by show y = _; rw [Hy.out]; unfold partOut; rw [List.getElem?_eq_none (by rw [← H.out]; omega)]
    have hin : Hid (inR (k : Int) 0 ((n : Int) - 1) = false) := inR_hi (by omega)
    go_enter Tryz.func83, Tryz.ntmps83
    go_wp2_with (first | (go_at_call 64; refine (spec_l1In _ _ _ _).mono ?_; rintro e w1 ⟨rfl, rfl⟩; rw [hin.out]))
    go_ret
    exact ⟨by rw [HY.out]; rfl, ext_alloc1 _ _⟩
end Go.Proofs.YtdaecknfahgddaaGreat
namespace Go.Proofs.YtdaecknfahgddaaGreat
open Go.RowKit
set_option linter.unusedVariables false
set_option maxRecDepth 20000
def chainAdd (b : Int) (l : List Int) : Int := l.foldl addM b
theorem chain_succ {b : Int} {l : List Int} {k : Nat} {x : Int} (h : l[k]? = some x) : chainAdd b (l.take (k + 1)) = addM (chainAdd b (l.take k)) x := by
  unfold chainAdd; rw [take_succ h, List.foldl_append]; rfl
theorem spec_ChainAdd (b : Int) (l : List Int) (v : Value) (w : World) (h : SlR intT w v l) (hz : l.length ≤ 16777216) : Calls Tryz.prog 169 #[I b, v] w fun e w' => e = .returned (I (chainAdd b l)) ∧ w = w' := by
 have X0 := Below.refl w.heap.size w
 refine enter Tryz.func169 rfl Tryz.ntmps169 rfl ?_
 refine w_s ?_
 refine w_g ?_
 have S := Sep.nil w
 have B := Below.refl w.heap.size w
 have Hb := Nat.le_refl w.heap.size
 refine t_a rfl ?_ rfl
 refine t_d ?_
 refine x_s ?_
 iterate 2 refine w_s ?_
 refine w_g ?_
 refine t_a rfl ?_ rfl
 refine t_d ?_
 refine x_s ?_
 refine w_block ?_
 refine w_loop (X := Nat × Int) (fun x wq => (fun k c => k ≤ l.length ∧ c = chainAdd b (l.take k) ∧ w = wq) x.1 x.2) (fun x => (fun k c => [(5, I ((k : Int))), (0, I c), (1, v), (4, I 0)]) x.1 x.2) (fun x => (fun k c => l.length - k) x.1 x.2) (0, b) ?_ ⟨rfl, rfl, rfl, rfl, trivial⟩ ?_
 ·exact ⟨by omega, rfl, rfl⟩
 ·rintro ⟨k, c⟩ w1 hI
  try dsimp only at hI ⊢
  obtain ⟨hk, hc, rfl⟩ := hI
  iterate 2 refine w_s ?_
  refine w_g ?_
  iterate 2 refine t_m rfl ?_ rfl
  refine t_len e_int ‹_› rfl rfl ?_ rfl
  refine t_lss rfl rfl ?_ rfl
  refine t_d ?_
  refine x_s ?_
  refine w_if rfl ?_ ?_
  ·intro hlt
   refine w_k ?_
   refine x_s ?_
   refine w_s ?_
   refine w_block ?_
   refine w_g ?_
   iterate 3 refine t_m rfl ?_ rfl
   obtain ⟨e15, he15⟩ : ∃ e, (l)[k]? = some e := getx (by omega)
   refine t_idx e_int (k := k) ‹_› he15 B rfl rfl (by first | rfl | omega) ?_ rfl
   intro p15 hp15
   refine t_ldi ‹_› ab_int B rfl ?_ rfl
   refine t_calls Tryz.call176 rfl (spec_AddMod _ _ _) ?_ rfl rfl
   refine t_a rfl ?_ rfl
   refine t_d ?_
   refine x_b ?_
   refine x_s ?_
   refine w_g ?_
   refine t_m rfl ?_ rfl
   refine t_add rfl rfl (by omega) ?_ rfl
   refine t_a rfl ?_ rfl
   refine t_d ?_
   refine x_r (X := Nat × Int) (k + 1, addM c e15) ?_ (by exact ⟨rfl, rfl, rfl, rfl, trivial⟩) (by (try dsimp only); omega)
   try dsimp only
   exact ⟨by omega, by rw [chain_succ he15, hc], rfl⟩
  ·intro hge
   refine w_exit ?_
   iterate 2 refine x_then_exit ?_
   refine x_block_exit ?_
   refine x_s ?_
   refine w_s ?_
   refine w_g ?_
   refine t_m rfl ?_ rfl
   refine t_a rfl ?_ rfl
   refine t_d ?_
   refine x_s ?_
   refine w_r ?_
   refine x_ret1 rfl rfl ?_
   exact ⟨ret_int (by rw [hc, List.take_of_length_le (by omega)]), rfl⟩
theorem spec_l9Seals (s : Seg) (v : Value) (i : Int) (w : World) (h : VA segT w v s) (hz : s.hops.length ≤ 1048576) (hi : 0 ≤ i ∧ i ≤ s.hops.length) : Calls Tryz.prog 170 #[v, I i] w fun e w' => ∃ v fp, e = .returned v ∧ SlO intT 3 w.heap.size w' v ((s.hops.take i.toNat).map Hop.mac) fp ∧ Below w.heap.size w w' := by
 have X0 := Below.refl w.heap.size w
 refine enter Tryz.func170 rfl Tryz.ntmps170 rfl ?_
 refine w_s ?_
 refine w_g ?_
 refine t_boxr ‹_› rfl ?_ rfl rfl
 intro p2 w2 x3 hp2
 replace h := h.below x3
 have X0 := ext_trans X0 x3
 have S := Sep.nil w2
 have B := Below.refl w2.heap.size w2
 have Hb := Nat.le_refl w2.heap.size
 refine t_a rfl ?_ rfl
 refine t_d ?_
 refine x_s ?_
 refine w_s ?_
 refine w_g ?_
 refine t_lit (T := intT) (css := []) (l := []) int_flat S bs_int0 rfl rfl rfl rfl (Nat.zero_le _) litR_nil ?_ rfl rfl
 intro u7 w4 x5 S
 have B := bx Hb B x5
 refine t_a rfl ?_ rfl
 refine t_d ?_
 refine x_s ?_
 iterate 2 refine w_s ?_
 refine w_g ?_
 refine t_a rfl ?_ rfl
 refine t_d ?_
 refine x_s ?_
 refine w_block ?_
 refine w_loop (X := Nat × Value) (fun x wq => (fun k v => k ≤ i.toNat ∧ Below w2.heap.size w2 wq ∧ Sep w2.heap.size wq [slO intT 3 v ((s.hops.take k).map Hop.mac)]) x.1 x.2) (fun x => (fun k v => [(6, I ((k : Int))), (5, v), (1, I i), (2, p2), (4, .slice none 0 0)]) x.1 x.2) (fun x => (fun k v => i.toNat - k) x.1 x.2) (0, u7) ?_ ⟨rfl, rfl, rfl, rfl, rfl, trivial⟩ ?_
 ·exact ⟨by omega, B, S⟩
 ·rintro ⟨k, v⟩ w6 hI
  try dsimp only at hI ⊢
  obtain ⟨hk, B, S⟩ := hI
  have hml : ((s.hops.take k).map Hop.mac).length = k := by rw [List.length_map, List.length_take]; omega
  iterate 2 refine w_s ?_
  refine w_g ?_
  iterate 2 refine t_m rfl ?_ rfl
  refine t_lss rfl rfl ?_ rfl
  refine t_d ?_
  refine x_s ?_
  refine w_if rfl ?_ ?_
  ·intro hlt
   refine w_k ?_
   refine x_s ?_
   refine w_s ?_
   refine w_block ?_
   refine w_g ?_
   refine t_m rfl ?_ rfl
   refine t_fld ln_seg_2 ‹_› fb_seg_2 rfl ?_ rfl
   intro p14 hp14
   refine t_lds ‹_› ab_s_hop B rfl ?_ rfl
   intro v15 hv15
   refine t_m rfl ?_ rfl
   obtain ⟨e17, he17⟩ : ∃ e, (s.hops)[k]? = some e := getx (by omega)
   refine t_idx e_hop (k := k) ‹_› he17 B rfl rfl (by first | rfl | omega) ?_ rfl
   intro p17 hp17
   refine t_fld ln_hop_4 ‹_› fb_hop_4 rfl ?_ rfl
   intro p18 hp18
   refine t_ldi ‹_› ab_int B rfl ?_ rfl
   refine t_lit (T := intT) (l := [e17.mac]) (css := ([e17.mac]).map fun a => [I a]) int_flat S (fun w => bs_int1 _ w) rfl rfl rfl rfl (by simp [maxLen]) (litR_int _) ?_ rfl rfl
   intro u20 w7 x8 S
   have B := bx Hb B x8
   have hR := S.sl
   have S := S.f1
   refine t_cat int_flat e_int S hR rfl rfl rfl (by first | omega | (simp [-List.length_flatMap]; omega)) (by (simp [maxLen, -List.length_flatMap]; try omega)) ?_ rfl
   intro v21 w9 x10 S
   have B := B.trans x10
   clear hR
   have S := S.f1.tail
   refine t_a rfl ?_ rfl
   refine t_d ?_
   refine x_b ?_
   refine x_s ?_
   refine w_g ?_
   refine t_m rfl ?_ rfl
   refine t_add rfl rfl (by omega) ?_ rfl
   refine t_a rfl ?_ rfl
   refine t_d ?_
   refine x_r (X := Nat × Value) (k + 1, v21) ?_ (by exact ⟨rfl, rfl, rfl, rfl, rfl, trivial⟩) (by (try dsimp only); omega)
   try dsimp only
   refine ⟨by omega, B, ?_⟩
   rw [take_succ he17, List.map_append]
   exact S
  ·intro hge
   refine w_exit ?_
   iterate 2 refine x_then_exit ?_
   refine x_block_exit ?_
   refine x_s ?_
   refine w_s ?_
   refine w_g ?_
   refine t_m rfl ?_ rfl
   refine t_a rfl ?_ rfl
   refine t_d ?_
   refine x_s ?_
   refine w_r ?_
   refine x_ret1 rfl rfl ?_
   have : k = i.toNat := by omega
   subst this
   obtain ⟨fp, hO⟩ := (S.mono X0.size).head
   exact ⟨_, fp, rfl, hO, ext_trans X0 B⟩
def segBeta (s : Seg) (i : Int) : Int := if inR i 0 s.hops.length then chainAdd s.beta ((s.hops.take i.toNat).map Hop.mac) else 0
theorem spec_BetaAt (s : Seg) (v : Value) (i : Int) (w : World) (h : VA segT w v s) (hz : s.hops.length ≤ 1048576) : Calls Tryz.prog 155 #[v, I i] w fun e w' => e = .returned (I (segBeta s i)) ∧ Below w.heap.size w w' := by
 have hml : ((s.hops.take i.toNat).map Hop.mac).length ≤ 1048576 := by rw [List.length_map, List.length_take]; omega
 have hml2 : (s.hops.take i.toNat).length ≤ 1048576 := by rw [List.length_take]; omega
 have X0 := Below.refl w.heap.size w
 refine enter Tryz.func155 rfl Tryz.ntmps155 rfl ?_
 refine w_s ?_
 refine w_g ?_
 refine t_boxr ‹_› rfl ?_ rfl rfl
 intro p2 w11 x12 hp2
 replace h := h.below x12
 have X0 := ext_trans X0 x12
 have S := Sep.nil w11
 have B := Below.refl w11.heap.size w11
 have Hb := Nat.le_refl w11.heap.size
 refine t_a rfl ?_ rfl
 refine t_d ?_
 refine x_s ?_
 iterate 2 refine w_s ?_
 refine w_g ?_
 refine t_m rfl ?_ rfl
 refine t_fld ln_seg_2 ‹_› fb_seg_2 rfl ?_ rfl
 intro p6 hp6
 refine t_lds ‹_› ab_s_hop B rfl ?_ rfl
 intro v7 hv7
 refine t_len e_hop ‹_› rfl rfl ?_ rfl
 refine t_calls Tryz.call64 rfl (spec_l1In _ _ _ _) ?_ rfl rfl
 refine t_notb rfl ?_ rfl
 refine t_d ?_
 refine x_s ?_
 refine w_ifb rfl ?_ ?_
 ·intro h1
  refine w_s ?_
  refine w_g ?_
  refine t_a rfl ?_ rfl
  refine t_d ?_
  refine x_s ?_
  refine w_r ?_
  refine x_t ?_
  refine x_ret1 rfl rfl ?_
  have h1' : inR i 0 s.hops.length = false := by simpa using h1
  exact ⟨ret_int (by simp [segBeta, h1']), ext_trans X0 B⟩
 ·intro h1
  have h1' : inR i 0 s.hops.length = true := by simpa using h1
  have r1 := inR_iff.1 h1'
  refine w_k ?_
  refine x_s ?_
  refine w_s ?_
  refine w_draw (.st .take 0 (.st .take 1 (.st .take 2 (.st .take 3 (.st .run 4 (.st .run 5 (.st .take 6 .done))))))) mixed (by kernel_rfl) ?_
  intro w13 x14
  have B := bx Hb B x14
  have S := S.below x14
  refine t_fld ln_seg_1 ‹_› fb_seg_1 rfl ?_ rfl
  intro p11 hp11
  refine t_ldi ‹_› ab_int B rfl ?_ rfl
  refine t_lda ‹_› ab_seg sb_seg B rfl ?_ rfl
  intro v13 hv13
  obtain ⟨v13_2, rfl, hv13_2⟩ := seg_va hv13
  refine t_m rfl ?_ rfl
  refine t_c Tryz.call170 rfl (spec_l9Seals _ _ _ _ (by first | assumption | exact VA.below ‹_› B | exact seg_mkv (by first | assumption | exact SlR.below ‹_› B)) (by omega) (by omega)) ?_ rfl rfl
  rintro e w15 ⟨v15, fpv15, rfl, hOv15, x16⟩
  refine ⟨_, rfl, x16, ?_⟩
  have S := S.add (o := slO _ _ _ _) x16 hOv15
  have B := bx Hb B x16
  refine t_calls Tryz.call169 rfl (spec_ChainAdd _ _ _ _ (S.sl) (by omega)) ?_ rfl rfl
  refine t_a rfl ?_ rfl
  refine t_d' ?_
  refine x_s ?_
  refine w_r ?_
  refine x_ret1 rfl rfl ?_
  exact ⟨ret_int (by simp [segBeta, h1']), ext_trans X0 B⟩
theorem impl_copyHops (l : List Hop) (v : Value) (w : World) (h : SlR hopT w v l) (hz : l.length ≤ 1048576) : Calls Tryz.prog 147 #[v] w fun e w' => ∃ v fp, e = .returned v ∧ SlO hopT 86 w.heap.size w' v l fp ∧ Below w.heap.size w w' := by
  have X0 := Below.refl w.heap.size w
  refine enter Tryz.func147 rfl Tryz.ntmps147 rfl ?_
  refine w_s ?_
  refine w_g ?_
  have S := Sep.nil w
  have B := Below.refl w.heap.size w
  have Hb := Nat.le_refl w.heap.size
  refine t_a rfl ?_ rfl
  refine t_d ?_
  refine x_s ?_
  refine w_s ?_
  refine w_g ?_
  refine t_lit (T := hopT) (css := []) (l := []) hop_flat S bs_hop0 rfl rfl rfl rfl (Nat.zero_le _) litR_nil ?_ rfl rfl
  intro u3 w17 x18 S
  have B := bx Hb B x18
  refine t_m rfl ?_ rfl
  refine t_cat hop_flat e_hop S (by first | assumption | exact SlR.below ‹_› B) rfl rfl rfl (by first | omega | (simp [-List.length_flatMap]; omega)) (by (simp [maxLen, -List.length_flatMap]; try omega)) ?_ rfl
  intro v5 w19 x20 S
  have B := B.trans x20
  refine t_a rfl ?_ rfl
  refine t_d ?_
  refine x_s ?_
  refine w_r ?_
  refine x_ret1 rfl rfl ?_
  obtain ⟨fp, hO⟩ := (S.mono X0.size).head
  exact ⟨_, fp, rfl, hO, ext_trans X0 B⟩
theorem rev_snoc {l : List Hop} {i : Int} {x : Hop} (h0 : 0 ≤ i) (h : l[i.toNat]? = some x) : (l.drop (i - 1 + 1).toNat).reverse = (l.drop (i + 1).toNat).reverse ++ [x] := by
  have h2 := List.getElem?_eq_some_iff.1 h
  rw [show (i - 1 + 1).toNat = i.toNat by omega, show (i + 1).toNat = i.toNat + 1 by omega, List.drop_eq_getElem_cons h2.1, List.reverse_cons, h2.2]
def makePart (s : Seg) (kind i : Int) : Part := if inR i 0 ((s.hops.length : Int) - 1) && inR kind 1 4 then (if isRev kind then ⟨kind, s.ts, segBeta s s.hops.length, (s.hops.drop i.toNat).reverse⟩ else ⟨kind, s.ts, segBeta s i, s.hops.drop i.toNat⟩) else ⟨0, 0, 0, []⟩
theorem make_none {s : Seg} {kind i : Int} (h : (inR i 0 ((s.hops.length : Int) - 1) && inR kind 1 4) = false) : makePart s kind i = ⟨0, 0, 0, []⟩ := by unfold makePart; rw [h]; rfl
theorem make_rev {s : Seg} {kind i : Int} (h1 : inR i 0 ((s.hops.length : Int) - 1) = true) (h2 : inR kind 1 4 = true) (h3 : isRev kind = true) : makePart s kind i = ⟨kind, s.ts, segBeta s s.hops.length, (s.hops.drop i.toNat).reverse⟩ := by unfold makePart; rw [h1, h2, h3]; rfl
theorem make_fwd {s : Seg} {kind i : Int} (h1 : inR i 0 ((s.hops.length : Int) - 1) = true) (h2 : inR kind 1 4 = true) (h3 : isRev kind = false) : makePart s kind i = ⟨kind, s.ts, segBeta s i, s.hops.drop i.toNat⟩ := by unfold makePart; rw [h1, h2, h3]; rfl
theorem spec_MakePart (s : Seg) (v : Value) (kind i : Int) (w : World) (h : VA segT w v s) (hz : s.hops.length ≤ 1048576) : Calls Tryz.prog 114 #[v, I kind, I i] w fun e w' => ∃ cs fp, e = .returned (.agg cs.toArray) ∧ partT.O w.heap.size w' cs (makePart s kind i) fp ∧ Below w.heap.size w w' := by
 have hdl : (s.hops.drop i.toNat).length ≤ 1048576 := by rw [List.length_drop]; omega
 have X0 := Below.refl w.heap.size w
 refine enter Tryz.func114 rfl Tryz.ntmps114 rfl ?_
 refine w_s ?_
 refine w_g ?_
 refine t_boxr ‹_› rfl ?_ rfl rfl
 intro p3 w21 x22 hp3
 replace h := h.below x22
 have X0 := ext_trans X0 x22
 have S := Sep.nil w21
 have B := Below.refl w21.heap.size w21
 have Hb := Nat.le_refl w21.heap.size
 refine t_w S z_part rfl ?_ rfl rfl
 intro g6 w23 x24 S
 have B := bx Hb B x24
 refine t_d ?_
 refine x_s ?_
 iterate 2 refine w_s ?_
 refine w_g ?_
 refine t_m rfl ?_ rfl
 refine t_fld ln_seg_2 ‹_› fb_seg_2 rfl ?_ rfl
 intro p10 hp10
 refine t_lds ‹_› ab_s_hop B rfl ?_ rfl
 intro v11 hv11
 refine t_len e_hop ‹_› rfl rfl ?_ rfl
 refine t_sub rfl rfl (by omega) ?_ rfl
 refine t_calls Tryz.call64 rfl (spec_l1In _ _ _ _) ?_ rfl rfl
 refine t_notb rfl ?_ rfl
 refine t_m rfl ?_ rfl
 refine t_part (t := 16) rfl ?_ ?_
 ·intro h1
  have h1' : inR i 0 ((s.hops.length : Int) - 1) = false := by simpa using h1
  rw [make_none (by rw [h1']; rfl)]
  iterate 3 refine t_off rfl rfl rfl ?_ rfl
  refine t_q rfl rfl ?_ rfl
  refine t_d ?_
  refine x_s ?_
  refine w_yes rfl ?_
  refine w_s ?_
  refine w_g ?_
  refine t_g (fun w => b_part0 w) rfl ?_ rfl
  refine t_stn S sb_part rfl rfl rfl rfl (by simp [Value.oneCell']) ?_
  intro w25 b26 S
  have B := B.trans b26
  refine t_d ?_
  refine x_s ?_
  refine w_r ?_
  refine x_t ?_
  refine x_retc rfl rfl S.box ab_part sb_part rfl ?_
  have S := Sep.addNil (T := hopT) (e := 86) S
  have S := S.partShut (x := ⟨0, 0, 0, []⟩)
  obtain ⟨fp, hO⟩ := (S.mono X0.size).head
  exact ⟨_, fp, rfl, hO, ext_trans X0 B⟩
 intro h1
 have h1' : inR i 0 ((s.hops.length : Int) - 1) = true := by simpa using h1
 have r1 := inR_iff.1 h1'
 refine t_on rfl rfl ?_
 refine t_m rfl ?_ rfl
 refine t_on rfl rfl ?_
 refine t_calls Tryz.call64 rfl (spec_l1In _ _ _ _) ?_ rfl rfl
 refine t_on rfl rfl ?_
 refine t_notb rfl ?_ rfl
 refine t_p rfl rfl ?_ rfl
 refine t_d ?_
 refine x_s ?_
 refine w_ifb rfl ?_ ?_
 ·intro h2
  have h2' : inR kind 1 4 = false := by simpa using h2
  rw [make_none (by rw [h2']; simp)]
  refine w_s ?_
  refine w_g ?_
  refine t_g (fun w => b_part0 w) rfl ?_ rfl
  refine t_stn S sb_part rfl rfl rfl rfl (by simp [Value.oneCell']) ?_
  intro w27 b28 S
  have B := B.trans b28
  refine t_d ?_
  refine x_s ?_
  refine w_r ?_
  refine x_t ?_
  refine x_retc rfl rfl S.box ab_part sb_part rfl ?_
  have S := Sep.addNil (T := hopT) (e := 86) S
  have S := S.partShut (x := ⟨0, 0, 0, []⟩)
  obtain ⟨fp, hO⟩ := (S.mono X0.size).head
  exact ⟨_, fp, rfl, hO, ext_trans X0 B⟩
 intro h2
 have h2' : inR kind 1 4 = true := by simpa using h2
 refine w_k ?_
 refine x_s ?_
 refine w_s ?_
 refine w_draw (.st .take 0 (.st .take 1 (.st .take 2 (.st .take 3 (.st .take 4 (.alt (.st .run 5 (.st .take 6 (.st .run 7 (.st .fin 8 .done)))) (.st .run 7 (.st .run 5 (.st .take 6 (.st .fin 8 .done)))))))))) mixed (by kernel_rfl) ?_
 intro w29 x30
 have B := bx Hb B x30
 have S := S.below x30
 refine t_m rfl ?_ rfl
 refine t_fld ln_seg_0 ‹_› fb_seg_0 rfl ?_ rfl
 intro p23 hp23
 refine t_ldi ‹_› ab_int B rfl ?_ rfl
 refine t_lda ‹_› ab_seg sb_seg B rfl ?_ rfl
 intro v25 hv25
 obtain ⟨v25_2, rfl, hv25_2⟩ := seg_va hv25
 refine t_m rfl ?_ rfl
 refine t_alt ?_ ?_
 ·refine t_x Tryz.call155 rfl (spec_BetaAt _ _ _ _ (by first | assumption | exact VA.below ‹_› B | exact seg_mkv (by first | assumption | exact SlR.below ‹_› B)) (by omega)) ?_ rfl rfl
  intro w31 x32
  have B := bx Hb B x32
  have S := S.below x32
  refine t_g (fun w => b_part3 _ _ _ w) rfl ?_ rfl
  refine t_w S z_part rfl ?_ rfl rfl
  intro g7 w33 x34 S
  have B := bx Hb B x34
  refine t_stn S sb_part rfl rfl rfl rfl (by simp [Value.oneCell']) ?_
  intro w35 b36 S
  have B := B.trans b36
  refine t_d' ?_
  refine x_s ?_
  iterate 2 refine w_s ?_
  refine w_g ?_
  refine t_m rfl ?_ rfl
  refine t_calls Tryz.call136 rfl (spec_IsReversed _ _) ?_ rfl rfl
  refine t_notb rfl ?_ rfl
  refine t_d ?_
  refine x_s ?_
  refine w_ifb rfl ?_ ?_
  ·intro h3
   rw [make_fwd h1' h2' (by simpa using h3)]
   refine w_s ?_
   refine w_g ?_
   refine t_lit (T := hopT) (css := []) (l := []) hop_flat S bs_hop0 rfl rfl rfl rfl (Nat.zero_le _) litR_nil ?_ rfl rfl
   intro u32 w37 x38 S
   have B := bx Hb B x38
   refine t_fld ln_seg_2 ‹_› fb_seg_2 rfl ?_ rfl
   intro p33 hp33
   refine t_lds ‹_› ab_s_hop B rfl ?_ rfl
   intro v34 hv34
   refine t_m rfl ?_ rfl
   refine t_sld e_hop (k := (i.toNat)) ‹_› rfl rfl (by first | rfl | omega) (by omega) ?_ rfl
   intro v36 hv36
   refine t_cat hop_flat e_hop S (by first | assumption | exact SlR.below ‹_› B) rfl rfl rfl (by first | omega | (simp [-List.length_flatMap]; omega)) (by (simp [maxLen, -List.length_flatMap]; try omega)) ?_ rfl
   intro v37 w39 x40 S
   have B := B.trans x40
   refine t_y fb_part_3 rfl rfl ?_ rfl
   obtain ⟨Av37, cv37, rfl, _⟩ := S.sl.form
   have S := S.f1
   refine t_st1 S sb_s_hop rfl rfl rfl rfl rfl ?_
   intro w41 b42 S
   have B := B.trans b42
   refine t_d ?_
   refine x_s ?_
   refine w_s ?_
   refine w_g ?_
   refine t_b S.box ab_part sb_part rfl rfl ?_ rfl
   have S := S.f2
   refine t_stn S sb_part rfl rfl rfl rfl (by repeat first | exact oc0 | refine oc rfl ?_ | refine oc (SlR.cells (by have z := S; repeat first | assumption | exact z.sl | replace z := z.tail)).2 ?_) ?_
   intro w43 b44 S
   have B := B.trans b44
   refine t_d ?_
   refine x_s ?_
   refine w_r ?_
   refine x_t ?_
   refine x_retc rfl rfl S.box ab_part sb_part rfl ?_
   have S := S.f2
   have S := S.partShut (x := ⟨kind, s.ts, segBeta s i, s.hops.drop i.toNat⟩)
   obtain ⟨fp, hO⟩ := (S.mono X0.size).head
   exact ⟨_, fp, rfl, hO, ext_trans X0 B⟩
  ·intro h3
   rw [make_rev h1' h2' (by simpa using h3)]
   refine w_k ?_
   refine x_s ?_
   refine w_s ?_
   refine w_g ?_
   refine t_lda ‹_› ab_seg sb_seg B rfl ?_ rfl
   intro v40 hv40
   obtain ⟨v40_2, rfl, hv40_2⟩ := seg_va hv40
   refine t_fld ln_seg_2 ‹_› fb_seg_2 rfl ?_ rfl
   intro p41 hp41
   refine t_lds ‹_› ab_s_hop B rfl ?_ rfl
   intro v42 hv42
   refine t_len e_hop ‹_› rfl rfl ?_ rfl
   refine t_x Tryz.call155 rfl (spec_BetaAt _ _ _ _ (by first | assumption | exact VA.below ‹_› B | exact seg_mkv (by first | assumption | exact SlR.below ‹_› B)) (by omega)) ?_ rfl rfl
   intro w45 x46
   have B := bx Hb B x46
   have S := S.below x46
   refine t_y fb_part_2 rfl rfl ?_ rfl
   refine t_st1 S sb_int rfl rfl rfl rfl rfl ?_
   intro w47 b48 S
   have B := B.trans b48
   refine t_d ?_
   refine x_s ?_
   iterate 2 refine w_s ?_
   refine w_g ?_
   refine t_fld ln_seg_2 ‹_› fb_seg_2 rfl ?_ rfl
   intro p46 hp46
   refine t_lds ‹_› ab_s_hop B rfl ?_ rfl
   intro v47 hv47
   refine t_len e_hop ‹_› rfl rfl ?_ rfl
   refine t_sub rfl rfl (by omega) ?_ rfl
   refine t_a rfl ?_ rfl
   refine t_d ?_
   refine x_s ?_
   refine w_block ?_
   refine w_loop (X := Int × Value) (fun x wq => (fun j u => i - 1 ≤ j ∧ j ≤ (s.hops.length : Int) - 1 ∧ Below w21.heap.size w21 wq ∧ Sep w21.heap.size wq [bxO g7 82 #[I kind, I s.ts, I (segBeta s s.hops.length), u], slO hopT 86 u (s.hops.drop (j + 1).toNat).reverse, bxO g6 82 #[I 0, I 0, I 0, .slice none 0 0]]) x.1 x.2) (fun x => (fun j u => [(8, I j), (2, I i), (3, p3), (6, .pointer (some ⟨g6, 0, none⟩)), (7, .pointer (some ⟨g7, 0, none⟩))]) x.1 x.2) (fun x => (fun j u => (j + 1 - i).toNat) x.1 x.2) ((s.hops.length : Int) - 1, .slice none 0 0) ?_ ⟨rfl, rfl, rfl, rfl, rfl, trivial⟩ ?_
   ·refine ⟨by show i - 1 ≤ (s.hops.length : Int) - 1; omega, by show (s.hops.length : Int) - 1 ≤ _; omega, B, ?_⟩
    show Sep _ _ [_, slO hopT _ _ (s.hops.drop ((s.hops.length : Int) - 1 + 1).toNat).reverse, _]
    rw [List.drop_of_length_le (by omega)]
    exact S.addNil.f1
   ·rintro ⟨j, u⟩ w49 hI
    try dsimp only at hI ⊢
    obtain ⟨hk, hk2, B, S⟩ := hI
    have hml : (s.hops.drop (j + 1).toNat).reverse.length ≤ 1048576 := by rw [List.length_reverse, List.length_drop]; omega
    iterate 2 refine w_s ?_
    refine w_g ?_
    iterate 2 refine t_m rfl ?_ rfl
    refine t_geq rfl rfl ?_ rfl
    refine t_d ?_
    refine x_s ?_
    refine w_if rfl ?_ ?_
    ·intro hlt
     refine w_k ?_
     refine x_s ?_
     refine w_s ?_
     refine w_block ?_
     refine w_draw (.st .take 0 (.st .take 1 (.st .take 2 (.st .take 3 (.st .take 4 (.st .take 5 (.st .take 6 (.st .run 7 (.st .fin 8 (.st .fin 9 (.st .fin 10 .done))))))))))) mixed (by kernel_rfl) ?_
     intro w50 x51
     have B := bx Hb B x51
     have S := S.below x51
     refine t_y fb_part_3 rfl rfl ?_ rfl
     refine t_bx1 S.box ab_s_hop rfl rfl ?_ rfl
     refine t_fld ln_seg_2 ‹_› fb_seg_2 rfl ?_ rfl
     intro p57 hp57
     refine t_lds ‹_› ab_s_hop B rfl ?_ rfl
     intro v58 hv58
     refine t_m rfl ?_ rfl
     obtain ⟨e60, he60⟩ : ∃ e, (s.hops)[(j.toNat)]? = some e := getx (by omega)
     refine t_idx e_hop (k := (j.toNat)) ‹_› he60 B rfl rfl (by first | rfl | omega) ?_ rfl
     intro p60 hp60
     refine t_lda ‹_› ab_hop sb_hop B rfl ?_ rfl
     intro v61 hv61
     obtain rfl := hop_va hv61
     refine t_lit (T := hopT) (l := [(e60 : Hop)]) (css := [[I e60.ia, I e60.ing, I e60.eg, I e60.exp, I e60.mac]]) hop_flat S (fun w => bs_hop1 _ _ _ _ _ w) rfl rfl rfl rfl (by simp [maxLen]) (litR_one fun _ => rfl) ?_ rfl rfl
     intro u62 w52 x53 S
     have B := bx Hb B x53
     have hR := S.sl
     have S := S.f2
     refine t_cat hop_flat e_hop S hR rfl rfl rfl (by first | omega | (simp [-List.length_flatMap]; omega)) (by (simp [maxLen, -List.length_flatMap]; try omega)) ?_ rfl
     intro v63 w54 x55 S
     have B := B.trans x55
     clear hR
     have S := S.f1.tail
     refine t_y fb_part_3 rfl rfl ?_ rfl
     obtain ⟨Av63, cv63, rfl, _⟩ := S.sl.form
     have S := S.f1
     refine t_st1 S sb_s_hop rfl rfl rfl rfl rfl ?_
     intro w56 b57 S
     have B := B.trans b57
     refine t_d' ?_
     refine x_b ?_
     refine x_s ?_
     refine w_g ?_
     refine t_m rfl ?_ rfl
     refine t_sub rfl rfl (by omega) ?_ rfl
     refine t_a rfl ?_ rfl
     refine t_d ?_
     refine x_r (X := Int × Value) (j - 1, .slice Av63 (((s.hops.drop (j + 1).toNat).reverse) ++ ([(e60 : Hop)])).length cv63) ?_ (by exact ⟨rfl, rfl, rfl, rfl, rfl, trivial⟩) (by (try dsimp only); omega)
     try dsimp only
     refine ⟨by omega, by omega, B, ?_⟩
     rw [rev_snoc (by omega) he60]
     exact S
    ·intro hge
     have hj : j + 1 = i := by omega
     rw [hj] at S
     refine w_exit ?_
     iterate 2 refine x_then_exit ?_
     refine x_block_exit ?_
     refine x_s ?_
     refine w_s ?_
     refine w_g ?_
     refine t_b S.box ab_part sb_part rfl rfl ?_ rfl
     have S := S.f2
     refine t_stn S sb_part rfl rfl rfl rfl (by repeat first | exact oc0 | refine oc rfl ?_ | refine oc (SlR.cells (by have z := S; repeat first | assumption | exact z.sl | replace z := z.tail)).2 ?_) ?_
     intro w58 b59 S
     have B := B.trans b59
     refine t_d ?_
     refine x_s ?_
     refine w_r ?_
     refine x_retc rfl rfl S.box ab_part sb_part rfl ?_
     have S := S.f2
     have S := S.partShut (x := ⟨kind, s.ts, segBeta s s.hops.length, (s.hops.drop i.toNat).reverse⟩)
     obtain ⟨fp, hO⟩ := (S.mono X0.size).head
     exact ⟨_, fp, rfl, hO, ext_trans X0 B⟩
 ·refine t_w S z_part rfl ?_ rfl rfl
  intro g7 w60 x61 S
  have B := bx Hb B x61
  refine t_x Tryz.call155 rfl (spec_BetaAt _ _ _ _ (by first | assumption | exact VA.below ‹_› B | exact seg_mkv (by first | assumption | exact SlR.below ‹_› B)) (by omega)) ?_ rfl rfl
  intro w62 x63
  have B := bx Hb B x63
  have S := S.below x63
  refine t_g (fun w => b_part3 _ _ _ w) rfl ?_ rfl
  refine t_stn S sb_part rfl rfl rfl rfl (by simp [Value.oneCell']) ?_
  intro w64 b65 S
  have B := B.trans b65
  refine t_d' ?_
  refine x_s ?_
  iterate 2 refine w_s ?_
  refine w_g ?_
  refine t_m rfl ?_ rfl
  refine t_calls Tryz.call136 rfl (spec_IsReversed _ _) ?_ rfl rfl
  refine t_notb rfl ?_ rfl
  refine t_d ?_
  refine x_s ?_
  refine w_ifb rfl ?_ ?_
  ·intro h3
   rw [make_fwd h1' h2' (by simpa using h3)]
   refine w_s ?_
   refine w_g ?_
   refine t_lit (T := hopT) (css := []) (l := []) hop_flat S bs_hop0 rfl rfl rfl rfl (Nat.zero_le _) litR_nil ?_ rfl rfl
   intro u32 w66 x67 S
   have B := bx Hb B x67
   refine t_fld ln_seg_2 ‹_› fb_seg_2 rfl ?_ rfl
   intro p33 hp33
   refine t_lds ‹_› ab_s_hop B rfl ?_ rfl
   intro v34 hv34
   refine t_m rfl ?_ rfl
   refine t_sld e_hop (k := (i.toNat)) ‹_› rfl rfl (by first | rfl | omega) (by omega) ?_ rfl
   intro v36 hv36
   refine t_cat hop_flat e_hop S (by first | assumption | exact SlR.below ‹_› B) rfl rfl rfl (by first | omega | (simp [-List.length_flatMap]; omega)) (by (simp [maxLen, -List.length_flatMap]; try omega)) ?_ rfl
   intro v37 w68 x69 S
   have B := B.trans x69
   refine t_y fb_part_3 rfl rfl ?_ rfl
   obtain ⟨Av37, cv37, rfl, _⟩ := S.sl.form
   have S := S.f1
   refine t_st1 S sb_s_hop rfl rfl rfl rfl rfl ?_
   intro w70 b71 S
   have B := B.trans b71
   refine t_d ?_
   refine x_s ?_
   refine w_s ?_
   refine w_g ?_
   refine t_b S.box ab_part sb_part rfl rfl ?_ rfl
   have S := S.f2
   refine t_stn S sb_part rfl rfl rfl rfl (by repeat first | exact oc0 | refine oc rfl ?_ | refine oc (SlR.cells (by have z := S; repeat first | assumption | exact z.sl | replace z := z.tail)).2 ?_) ?_
   intro w72 b73 S
   have B := B.trans b73
   refine t_d ?_
   refine x_s ?_
   refine w_r ?_
   refine x_t ?_
   refine x_retc rfl rfl S.box ab_part sb_part rfl ?_
   have S := S.f2
   have S := S.partShut (x := ⟨kind, s.ts, segBeta s i, s.hops.drop i.toNat⟩)
   obtain ⟨fp, hO⟩ := (S.mono X0.size).head
   exact ⟨_, fp, rfl, hO, ext_trans X0 B⟩
  ·intro h3
   rw [make_rev h1' h2' (by simpa using h3)]
   refine w_k ?_
   refine x_s ?_
   refine w_s ?_
   refine w_g ?_
   refine t_lda ‹_› ab_seg sb_seg B rfl ?_ rfl
   intro v40 hv40
   obtain ⟨v40_2, rfl, hv40_2⟩ := seg_va hv40
   refine t_fld ln_seg_2 ‹_› fb_seg_2 rfl ?_ rfl
   intro p41 hp41
   refine t_lds ‹_› ab_s_hop B rfl ?_ rfl
   intro v42 hv42
   refine t_len e_hop ‹_› rfl rfl ?_ rfl
   refine t_x Tryz.call155 rfl (spec_BetaAt _ _ _ _ (by first | assumption | exact VA.below ‹_› B | exact seg_mkv (by first | assumption | exact SlR.below ‹_› B)) (by omega)) ?_ rfl rfl
   intro w74 x75
   have B := bx Hb B x75
   have S := S.below x75
   refine t_y fb_part_2 rfl rfl ?_ rfl
   refine t_st1 S sb_int rfl rfl rfl rfl rfl ?_
   intro w76 b77 S
   have B := B.trans b77
   refine t_d ?_
   refine x_s ?_
   iterate 2 refine w_s ?_
   refine w_g ?_
   refine t_fld ln_seg_2 ‹_› fb_seg_2 rfl ?_ rfl
   intro p46 hp46
   refine t_lds ‹_› ab_s_hop B rfl ?_ rfl
   intro v47 hv47
   refine t_len e_hop ‹_› rfl rfl ?_ rfl
   refine t_sub rfl rfl (by omega) ?_ rfl
   refine t_a rfl ?_ rfl
   refine t_d ?_
   refine x_s ?_
   refine w_block ?_
   refine w_loop (X := Int × Value) (fun x wq => (fun j u => i - 1 ≤ j ∧ j ≤ (s.hops.length : Int) - 1 ∧ Below w21.heap.size w21 wq ∧ Sep w21.heap.size wq [bxO g7 82 #[I kind, I s.ts, I (segBeta s s.hops.length), u], slO hopT 86 u (s.hops.drop (j + 1).toNat).reverse, bxO g6 82 #[I 0, I 0, I 0, .slice none 0 0]]) x.1 x.2) (fun x => (fun j u => [(8, I j), (2, I i), (3, p3), (6, .pointer (some ⟨g6, 0, none⟩)), (7, .pointer (some ⟨g7, 0, none⟩))]) x.1 x.2) (fun x => (fun j u => (j + 1 - i).toNat) x.1 x.2) ((s.hops.length : Int) - 1, .slice none 0 0) ?_ ⟨rfl, rfl, rfl, rfl, rfl, trivial⟩ ?_
   ·refine ⟨by show i - 1 ≤ (s.hops.length : Int) - 1; omega, by show (s.hops.length : Int) - 1 ≤ _; omega, B, ?_⟩
    show Sep _ _ [_, slO hopT _ _ (s.hops.drop ((s.hops.length : Int) - 1 + 1).toNat).reverse, _]
    rw [List.drop_of_length_le (by omega)]
    exact S.addNil.f1
   ·rintro ⟨j, u⟩ w78 hI
    try dsimp only at hI ⊢
    obtain ⟨hk, hk2, B, S⟩ := hI
    have hml : (s.hops.drop (j + 1).toNat).reverse.length ≤ 1048576 := by rw [List.length_reverse, List.length_drop]; omega
    iterate 2 refine w_s ?_
    refine w_g ?_
    iterate 2 refine t_m rfl ?_ rfl
    refine t_geq rfl rfl ?_ rfl
    refine t_d ?_
    refine x_s ?_
    refine w_if rfl ?_ ?_
    ·intro hlt
     refine w_k ?_
     refine x_s ?_
     refine w_s ?_
     refine w_block ?_
     refine w_draw (.st .take 0 (.st .take 1 (.st .take 2 (.st .take 3 (.st .take 4 (.st .take 5 (.st .take 6 (.st .run 7 (.st .fin 8 (.st .fin 9 (.st .fin 10 .done))))))))))) mixed (by kernel_rfl) ?_
     intro w79 x80
     have B := bx Hb B x80
     have S := S.below x80
     refine t_y fb_part_3 rfl rfl ?_ rfl
     refine t_bx1 S.box ab_s_hop rfl rfl ?_ rfl
     refine t_fld ln_seg_2 ‹_› fb_seg_2 rfl ?_ rfl
     intro p57 hp57
     refine t_lds ‹_› ab_s_hop B rfl ?_ rfl
     intro v58 hv58
     refine t_m rfl ?_ rfl
     obtain ⟨e60, he60⟩ : ∃ e, (s.hops)[(j.toNat)]? = some e := getx (by omega)
     refine t_idx e_hop (k := (j.toNat)) ‹_› he60 B rfl rfl (by first | rfl | omega) ?_ rfl
     intro p60 hp60
     refine t_lda ‹_› ab_hop sb_hop B rfl ?_ rfl
     intro v61 hv61
     obtain rfl := hop_va hv61
     refine t_lit (T := hopT) (l := [(e60 : Hop)]) (css := [[I e60.ia, I e60.ing, I e60.eg, I e60.exp, I e60.mac]]) hop_flat S (fun w => bs_hop1 _ _ _ _ _ w) rfl rfl rfl rfl (by simp [maxLen]) (litR_one fun _ => rfl) ?_ rfl rfl
     intro u62 w81 x82 S
     have B := bx Hb B x82
     have hR := S.sl
     have S := S.f2
     refine t_cat hop_flat e_hop S hR rfl rfl rfl (by first | omega | (simp [-List.length_flatMap]; omega)) (by (simp [maxLen, -List.length_flatMap]; try omega)) ?_ rfl
     intro v63 w83 x84 S
     have B := B.trans x84
     clear hR
     have S := S.f1.tail
     refine t_y fb_part_3 rfl rfl ?_ rfl
     obtain ⟨Av63, cv63, rfl, _⟩ := S.sl.form
     have S := S.f1
     refine t_st1 S sb_s_hop rfl rfl rfl rfl rfl ?_
     intro w85 b86 S
     have B := B.trans b86
     refine t_d' ?_
     refine x_b ?_
     refine x_s ?_
     refine w_g ?_
     refine t_m rfl ?_ rfl
     refine t_sub rfl rfl (by omega) ?_ rfl
     refine t_a rfl ?_ rfl
     refine t_d ?_
     refine x_r (X := Int × Value) (j - 1, .slice Av63 (((s.hops.drop (j + 1).toNat).reverse) ++ ([(e60 : Hop)])).length cv63) ?_ (by exact ⟨rfl, rfl, rfl, rfl, rfl, trivial⟩) (by (try dsimp only); omega)
     try dsimp only
     refine ⟨by omega, by omega, B, ?_⟩
     rw [rev_snoc (by omega) he60]
     exact S
    ·intro hge
     have hj : j + 1 = i := by omega
     rw [hj] at S
     refine w_exit ?_
     iterate 2 refine x_then_exit ?_
     refine x_block_exit ?_
     refine x_s ?_
     refine w_s ?_
     refine w_g ?_
     refine t_b S.box ab_part sb_part rfl rfl ?_ rfl
     have S := S.f2
     refine t_stn S sb_part rfl rfl rfl rfl (by repeat first | exact oc0 | refine oc rfl ?_ | refine oc (SlR.cells (by have z := S; repeat first | assumption | exact z.sl | replace z := z.tail)).2 ?_) ?_
     intro w87 b88 S
     have B := B.trans b88
     refine t_d ?_
     refine x_s ?_
     refine w_r ?_
     refine x_retc rfl rfl S.box ab_part sb_part rfl ?_
     have S := S.f2
     have S := S.partShut (x := ⟨kind, s.ts, segBeta s s.hops.length, (s.hops.drop i.toNat).reverse⟩)
     obtain ⟨fp, hO⟩ := (S.mono X0.size).head
     exact ⟨_, fp, rfl, hO, ext_trans X0 B⟩
end Go.Proofs.YtdaecknfahgddaaGreat
namespace Go.Proofs.YtdaecknfahgddaaGreat
open Go.RowKit
set_option linter.unusedVariables false
set_option maxRecDepth 20000
/-- The last place below n where the AS is r. -/
def lastI (l : List Hop) (r : Int) : Nat → Int
  | 0 => -1
  | n + 1 => match l[n]? with
    | some x => if x.ia = r then (n : Int) else lastI l r n
    | none => lastI l r n
theorem lastI_yes {l : List Hop} {r : Int} {i : Int} {x : Hop} (h0 : 0 ≤ i) (h : l[i.toNat]? = some x) (e : x.ia = r) : lastI l r (i + 1).toNat = i := by
  rw [show (i + 1).toNat = i.toNat + 1 by omega, lastI, h]
  simp only [e, if_true]
  omega
theorem lastI_no {l : List Hop} {r : Int} {i : Int} {x : Hop} (h0 : 0 ≤ i) (h : l[i.toNat]? = some x) (e : x.ia ≠ r) : lastI l r (i + 1).toNat = lastI l r (i - 1 + 1).toNat := by
  rw [show (i + 1).toNat = i.toNat + 1 by omega, show (i - 1 + 1).toNat = i.toNat by omega, lastI, h]
  simp only [e, if_false]
theorem spec_SegmentASes (p : Seg) (v : Value) (w : World) (h : VA segT w v p) (hz : p.hops.length ≤ 1048576) : Calls Tryz.prog 153 #[v] w fun e w' => ∃ v fp, e = .returned v ∧ SlO intT 3 w.heap.size w' v (p.hops.map Hop.ia) fp ∧ Below w.heap.size w w' := by
 have X0 := Below.refl w.heap.size w
 refine enter Tryz.func153 rfl Tryz.ntmps153 rfl ?_
 refine w_s ?_
 refine w_g ?_
 refine t_boxr ‹_› rfl ?_ rfl rfl
 intro p1 w1 x2 hp1
 replace h := h.below x2
 have X0 := ext_trans X0 x2
 have S := Sep.nil w1
 have B := Below.refl w1.heap.size w1
 have Hb := Nat.le_refl w1.heap.size
 refine t_a rfl ?_ rfl
 refine t_d ?_
 refine x_s ?_
 refine w_s ?_
 refine w_g ?_
 refine t_lit (T := intT) (css := []) (l := []) int_flat S bs_int0 rfl rfl rfl rfl (Nat.zero_le _) litR_nil ?_ rfl rfl
 intro u5 w3 x4 S
 have B := bx Hb B x4
 refine t_a rfl ?_ rfl
 refine t_d ?_
 refine x_s ?_
 iterate 2 refine w_s ?_
 refine w_g ?_
 refine t_a rfl ?_ rfl
 refine t_d ?_
 refine x_s ?_
 refine w_block ?_
 refine w_loop (X := Nat × Value) (fun x wq => (fun k v => k ≤ p.hops.length ∧ Below w1.heap.size w1 wq ∧ Sep w1.heap.size wq [slO intT 3 v ((p.hops.take k).map Hop.ia)]) x.1 x.2) (fun x => (fun k v => [(4, I ((k : Int))), (3, v), (1, p1), (2, .slice none 0 0)]) x.1 x.2) (fun x => (fun k v => p.hops.length - k) x.1 x.2) (0, u5) ?_ ⟨rfl, rfl, rfl, rfl, trivial⟩ ?_
 ·exact ⟨by omega, B, S⟩
 ·rintro ⟨k, v⟩ w5 hI
  try dsimp only at hI ⊢
  obtain ⟨hk, B, S⟩ := hI
  have hml : ((p.hops.take k).map Hop.ia).length = k := by rw [List.length_map, List.length_take]; omega
  iterate 2 refine w_s ?_
  refine w_g ?_
  refine t_m rfl ?_ rfl
  refine t_fld ln_seg_2 ‹_› fb_seg_2 rfl ?_ rfl
  intro p7 hp7
  refine t_lds ‹_› ab_s_hop B rfl ?_ rfl
  intro v8 hv8
  refine t_len e_hop ‹_› rfl rfl ?_ rfl
  refine t_lss rfl rfl ?_ rfl
  refine t_d ?_
  refine x_s ?_
  refine w_if rfl ?_ ?_
  ·intro hlt
   refine w_k ?_
   refine x_s ?_
   refine w_s ?_
   refine w_block ?_
   refine w_g ?_
   refine t_m rfl ?_ rfl
   refine t_fld ln_seg_2 ‹_› fb_seg_2 rfl ?_ rfl
   intro p14 hp14
   refine t_lds ‹_› ab_s_hop B rfl ?_ rfl
   intro v15 hv15
   refine t_m rfl ?_ rfl
   obtain ⟨e17, he17⟩ : ∃ e, (p.hops)[k]? = some e := getx (by omega)
   refine t_idx e_hop (k := k) ‹_› he17 B rfl rfl (by first | rfl | omega) ?_ rfl
   intro p17 hp17
   refine t_fld ln_hop_0 ‹_› fb_hop_0 rfl ?_ rfl
   intro p18 hp18
   refine t_ldi ‹_› ab_int B rfl ?_ rfl
   refine t_lit (T := intT) (l := [e17.ia]) (css := ([e17.ia]).map fun a => [I a]) int_flat S (fun w => bs_int1 _ w) rfl rfl rfl rfl (by simp [maxLen]) (litR_int _) ?_ rfl rfl
   intro u20 w6 x7 S
   have B := bx Hb B x7
   have hR := S.sl
   have S := S.f1
   refine t_cat int_flat e_int S hR rfl rfl rfl (by first | omega | (simp [-List.length_flatMap]; omega)) (by (simp [maxLen, -List.length_flatMap]; try omega)) ?_ rfl
   intro v21 w8 x9 S
   have B := B.trans x9
   clear hR
   have S := S.f1.tail
   refine t_a rfl ?_ rfl
   refine t_d ?_
   refine x_b ?_
   refine x_s ?_
   refine w_g ?_
   refine t_m rfl ?_ rfl
   refine t_add rfl rfl (by omega) ?_ rfl
   refine t_a rfl ?_ rfl
   refine t_d ?_
   refine x_r (X := Nat × Value) (k + 1, v21) ?_ (by exact ⟨rfl, rfl, rfl, rfl, trivial⟩) (by (try dsimp only); omega)
   try dsimp only
   refine ⟨by omega, B, ?_⟩
   rw [take_succ he17, List.map_append]
   exact S
  ·intro hge
   refine w_exit ?_
   iterate 2 refine x_then_exit ?_
   refine x_block_exit ?_
   refine x_s ?_
   refine w_s ?_
   refine w_g ?_
   refine t_m rfl ?_ rfl
   refine t_a rfl ?_ rfl
   refine t_d ?_
   refine x_s ?_
   refine w_r ?_
   refine x_ret1 rfl rfl ?_
   have : k = p.hops.length := by omega
   subst this
   rw [List.take_length] at S
   obtain ⟨fp, hO⟩ := (S.mono X0.size).head
   exact ⟨_, fp, rfl, hO, ext_trans X0 B⟩
def meet (up down : Seg) : Nat → Path
  | 0 => []
  | n + 1 => match up.hops[n]? with
    | none => []
    | some x => if 0 ≤ lastI down.hops x.ia down.hops.length then [makePart up 1 n, makePart down 4 (lastI down.hops x.ia down.hops.length)] else meet up down n
def joinUD (up down : Seg) : Path := meet up down up.hops.length
theorem meet_yes {up down : Seg} {i : Int} {x : Hop} (h0 : 0 ≤ i) (h : up.hops[i.toNat]? = some x) (e : 0 ≤ lastI down.hops x.ia down.hops.length) : meet up down (i + 1).toNat = [makePart up 1 i, makePart down 4 (lastI down.hops x.ia down.hops.length)] := by
  rw [show (i + 1).toNat = i.toNat + 1 by omega, meet, h]
  simp only [e, if_true]
  rw [show (i.toNat : Int) = i by omega]
theorem meet_no {up down : Seg} {i : Int} {x : Hop} (h0 : 0 ≤ i) (h : up.hops[i.toNat]? = some x) (e : ¬ 0 ≤ lastI down.hops x.ia down.hops.length) : meet up down (i + 1).toNat = meet up down (i - 1 + 1).toNat := by
  rw [show (i + 1).toNat = i.toNat + 1 by omega, show (i - 1 + 1).toNat = i.toNat by omega, meet, h]
  simp only [e, if_false]
theorem spec_l22Meet (s t : Seg) (v u : Value) (w : World) (h : VA segT w v s) (h' : VA segT w u t) (hz : s.hops.length ≤ 1048576) (hz' : t.hops.length ≤ 1048576) : Calls Tryz.prog 113 #[v, u] w fun e w' => ∃ cs fp, e = .returned (.agg cs.toArray) ∧ pathT.O w.heap.size w' cs (joinUD s t) fp ∧ Below w.heap.size w w' := by
 have hml : (s.hops.map Hop.ia).length = s.hops.length := List.length_map ..
 have hml2 : (t.hops.map Hop.ia).length = t.hops.length := List.length_map ..
 have X0 := Below.refl w.heap.size w
 refine enter Tryz.func113 rfl Tryz.ntmps113 rfl ?_
 refine w_s ?_
 refine w_g ?_
 refine t_boxr ‹_› rfl ?_ rfl rfl
 intro p2 w10 x11 hp2
 replace h := h.below x11
 replace h' := h'.below x11
 have X0 := ext_trans X0 x11
 refine t_boxr ‹_› rfl ?_ rfl rfl
 intro p3 w12 x13 hp3
 replace h := h.below x13
 replace h' := h'.below x13
 replace hp2 := hp2.below x13
 have X0 := ext_trans X0 x13
 have S := Sep.nil w12
 have B := Below.refl w12.heap.size w12
 have Hb := Nat.le_refl w12.heap.size
 refine t_w S z_path rfl ?_ rfl rfl
 intro g4 w14 x15 S
 have B := bx Hb B x15
 refine t_d ?_
 refine x_s ?_
 refine w_s ?_
 refine w_g ?_
 refine t_lda ‹_› ab_seg sb_seg B rfl ?_ rfl
 intro v9 hv9
 obtain ⟨v9_2, rfl, hv9_2⟩ := seg_va hv9
 refine t_c Tryz.call153 rfl (spec_SegmentASes _ _ _ (by first | assumption | exact VA.below ‹_› B | exact seg_mkv (by first | assumption | exact SlR.below ‹_› B)) (by omega)) ?_ rfl rfl
 rintro e w16 ⟨v10, fpv10, rfl, hOv10, x17⟩
 refine ⟨_, rfl, x17, ?_⟩
 have S := S.add (o := slO _ _ _ _) x17 hOv10
 have B := bx Hb B x17
 refine t_a rfl ?_ rfl
 refine t_d ?_
 refine x_s ?_
 refine w_s ?_
 refine w_g ?_
 refine t_lda ‹_› ab_seg sb_seg B rfl ?_ rfl
 intro v11 hv11
 obtain ⟨v11_2, rfl, hv11_2⟩ := seg_va hv11
 refine t_c Tryz.call153 rfl (spec_SegmentASes _ _ _ (by first | assumption | exact VA.below ‹_› B | exact seg_mkv (by first | assumption | exact SlR.below ‹_› B)) (by omega)) ?_ rfl rfl
 rintro e w18 ⟨v12, fpv12, rfl, hOv12, x19⟩
 refine ⟨_, rfl, x19, ?_⟩
 have S := S.add (o := slO _ _ _ _) x19 hOv12
 have B := bx Hb B x19
 refine t_a rfl ?_ rfl
 refine t_d ?_
 refine x_s ?_
 iterate 2 refine w_s ?_
 refine w_g ?_
 refine t_m rfl ?_ rfl
 refine t_len e_int (S.tail.sl) rfl rfl ?_ rfl
 refine t_sub rfl rfl (by omega) ?_ rfl
 refine t_a rfl ?_ rfl
 refine t_d ?_
 refine x_s ?_
 refine w_block ?_
 refine w_loop (X := Int) (fun i wq => -1 ≤ i ∧ i ≤ (s.hops.length : Int) - 1 ∧ meet s t (i + 1).toNat = joinUD s t ∧ Below w12.heap.size w12 wq ∧ Sep w12.heap.size wq [bxO g4 30 #[.slice none 0 0], slO intT 3 v10 (s.hops.map Hop.ia), slO intT 3 v12 (t.hops.map Hop.ia)]) (fun i => [(7, I i), (2, p2), (3, p3), (4, .pointer (some ⟨g4, 0, none⟩)), (5, v10), (6, v12)]) (fun i => (i + 1).toNat) (((s.hops.map Hop.ia).length : Int) - 1) ?_ ⟨rfl, rfl, rfl, rfl, rfl, rfl, trivial⟩ ?_
 ·exact ⟨by omega, by omega, by rw [show (((s.hops.map Hop.ia).length : Int) - 1 + 1).toNat = s.hops.length by omega]; rfl, B, S.f1.f2⟩
 ·rintro i w20 hI
  try dsimp only at hI ⊢
  obtain ⟨hk, hk2, hl, B, S⟩ := hI
  iterate 2 refine w_s ?_
  refine w_g ?_
  refine t_m rfl ?_ rfl
  refine t_geq rfl rfl ?_ rfl
  refine t_d ?_
  refine x_s ?_
  refine w_if rfl ?_ ?_
  ·intro hlt
   obtain ⟨x, hx⟩ : ∃ e, s.hops[i.toNat]? = some e := getx (by omega)
   have hxm : (s.hops.map Hop.ia)[i.toNat]? = some x.ia := by rw [List.getElem?_map, hx]; rfl
   refine w_k ?_
   refine x_s ?_
   refine w_s ?_
   refine w_block ?_
   refine w_s ?_
   refine w_g ?_
   refine t_m rfl ?_ rfl
   refine t_len e_int (S.tail.tail.sl) rfl rfl ?_ rfl
   refine t_sub rfl rfl (by omega) ?_ rfl
   refine t_a rfl ?_ rfl
   refine t_d ?_
   refine x_s ?_
   refine w_block ?_
   refine w_loop (X := Int) (fun k wq => -1 ≤ k ∧ k ≤ (t.hops.length : Int) - 1 ∧ lastI t.hops x.ia (k + 1).toNat = lastI t.hops x.ia t.hops.length ∧ Below w12.heap.size w12 wq ∧ Sep w12.heap.size wq [bxO g4 30 #[.slice none 0 0], slO intT 3 v10 (s.hops.map Hop.ia), slO intT 3 v12 (t.hops.map Hop.ia)]) (fun k => [(8, I k), (7, I i), (2, p2), (3, p3), (4, .pointer (some ⟨g4, 0, none⟩)), (5, v10), (6, v12)]) (fun k => (k + 1).toNat) (((t.hops.map Hop.ia).length : Int) - 1) ?_ ⟨rfl, rfl, rfl, rfl, rfl, rfl, rfl, trivial⟩ ?_
   ·exact ⟨by omega, by omega, by rw [show (((t.hops.map Hop.ia).length : Int) - 1 + 1).toNat = t.hops.length by omega], B, S⟩
   ·rintro k w21 hI
    try dsimp only at hI ⊢
    obtain ⟨hj, hj2, hm, B, S⟩ := hI
    iterate 2 refine w_s ?_
    refine w_g ?_
    refine t_m rfl ?_ rfl
    refine t_geq rfl rfl ?_ rfl
    refine t_d ?_
    refine x_s ?_
    refine w_if rfl ?_ ?_
    ·intro hlt2
     obtain ⟨y, hy⟩ : ∃ e, t.hops[k.toNat]? = some e := getx (by omega)
     have hym : (t.hops.map Hop.ia)[k.toNat]? = some y.ia := by rw [List.getElem?_map, hy]; rfl
     refine w_k ?_
     refine x_s ?_
     refine w_s ?_
     refine w_block ?_
     refine w_s ?_
     refine w_draw (.st .take 0 (.st .take 1 (.st .take 2 (.st .take 3 (.st .take 4 (.st .take 5 (.st .take 6 (.st .take 7 (.st .take 8 .done))))))))) mixed (by kernel_rfl) ?_
     intro w22 x23
     have B := bx Hb B x23
     have S := S.below x23
     iterate 2 refine t_m rfl ?_ rfl
     refine t_idx e_int (k := (i.toNat)) (S.tail.sl) hxm (Below.refl _ _) rfl rfl (by first | rfl | omega) ?_ rfl
     intro p29 hp29
     refine t_ldi ‹_› ab_int (Below.refl _ _) rfl ?_ rfl
     iterate 2 refine t_m rfl ?_ rfl
     refine t_idx e_int (k := (k.toNat)) (S.tail.tail.sl) hym (Below.refl _ _) rfl rfl (by first | rfl | omega) ?_ rfl
     intro p33 hp33
     refine t_ldi ‹_› ab_int (Below.refl _ _) rfl ?_ rfl
     refine t_eql rfl rfl ?_ rfl
     refine t_d' ?_
     refine x_s ?_
     refine w_if rfl ?_ ?_
     ·intro he
      have hL : lastI t.hops x.ia t.hops.length = k := by rw [← hm, lastI_yes (by omega) hy he.symm]
      have hM := meet_yes (down := t) (by omega) hx (by omega)
      rw [hL] at hM
      rw [← hl, hM]
      refine w_s ?_
      refine w_draw (.st .take 0 (.st .take 1 (.st .take 3 (.st .take 4 (.st .run 2 (.st .run 5 (.st .run 6 (.st .take 7 (.st .fin 8 .done))))))))) mixed (by kernel_rfl) ?_
      intro w24 x25
      have B := bx Hb B x25
      have S := S.below x25
      refine t_lda ‹_› ab_seg sb_seg B rfl ?_ rfl
      intro v36 hv36
      obtain ⟨v36_2, rfl, hv36_2⟩ := seg_va hv36
      refine t_m rfl ?_ rfl
      refine t_lda ‹_› ab_seg sb_seg B rfl ?_ rfl
      intro v39 hv39
      obtain ⟨v39_2, rfl, hv39_2⟩ := seg_va hv39
      refine t_m rfl ?_ rfl
      refine t_c Tryz.call114 rfl (spec_MakePart _ _ _ _ _ (by first | assumption | exact VA.below ‹_› B | exact seg_mkv (by first | assumption | exact SlR.below ‹_› B)) (by omega)) ?_ rfl rfl
      rintro e w26 ⟨cs38, fp38, rfl, hO38, x27⟩
      refine ⟨_, rfl, x27, ?_⟩
      have S := S.add (o := tyO partT _ _) x27 hO38
      have B := bx Hb B x27
      obtain ⟨u38_3, heq, S2⟩ := S.partOpen
      subst heq
      have S := S2
      clear S2
      refine t_c Tryz.call114 rfl (spec_MakePart _ _ _ _ _ (by first | assumption | exact VA.below ‹_› B | exact seg_mkv (by first | assumption | exact SlR.below ‹_› B)) (by omega)) ?_ rfl rfl
      rintro e w28 ⟨cs41, fp41, rfl, hO41, x29⟩
      refine ⟨_, rfl, x29, ?_⟩
      have S := S.add (o := tyO partT _ _) x29 hO41
      have B := bx Hb B x29
      obtain ⟨u41_3, heq, S2⟩ := S.partOpen
      subst heq
      have S := S2
      clear S2
      have S := S.partShut (x := makePart t 4 k)
      have S := S.f1
      have S := S.partShut (x := makePart s 1 i)
      refine t_lit2 S (fun w => bs_part2 _ _ _ _ _ _ _ _ w) rfl rfl ?_ rfl rfl
      intro u42 w30 x31 S
      have B := bx Hb B x31
      obtain ⟨Au42, cu42, rfl, _⟩ := S.sl.form
      refine t_g (fun w => b_path _ _ _ w) rfl ?_ rfl
      have S := S.f1
      refine t_stn S sb_path rfl rfl rfl rfl (by repeat first | exact oc0 | refine oc rfl ?_ | refine oc (SlR.cells (by have z := S; repeat first | assumption | exact z.sl | replace z := z.tail)).2 ?_) ?_
      intro w32 b33 S
      have B := B.trans b33
      refine t_d' ?_
      refine x_s ?_
      refine w_r ?_
      refine x_block_ret ?_
      iterate 2 refine x_t ?_
      iterate 2 refine x_block_ret ?_
      iterate 2 refine x_t ?_
      refine x_block_ret ?_
      refine x_t ?_
      refine x_retc rfl rfl S.box ab_path sb_path rfl ?_
      have S := S.f1
      have S := S.pathShut (x := [makePart s 1 i, makePart t 4 k])
      obtain ⟨fp, hO⟩ := (S.mono X0.size).head
      exact ⟨_, fp, rfl, hO, ext_trans X0 B⟩
     ·intro he
      refine w_k ?_
      refine x_b ?_
      refine x_s ?_
      refine w_g ?_
      refine t_m rfl ?_ rfl
      refine t_sub rfl rfl (by omega) ?_ rfl
      refine t_a rfl ?_ rfl
      refine t_d ?_
      refine x_r (X := Int) (k - 1) ?_ (by exact ⟨rfl, rfl, rfl, rfl, rfl, rfl, rfl, trivial⟩) (by (try dsimp only); omega)
      try dsimp only
      exact ⟨by omega, by omega, by rw [← lastI_no (by omega) hy (fun e => he e.symm)]; exact hm, B, S⟩
    ·intro hge2
     refine w_exit ?_
     iterate 2 refine x_then_exit ?_
     refine x_block_exit ?_
     refine x_b ?_
     refine x_s ?_
     refine w_g ?_
     refine t_m rfl ?_ rfl
     refine t_sub rfl rfl (by omega) ?_ rfl
     refine t_a rfl ?_ rfl
     refine t_d ?_
     refine x_r (X := Int) (i - 1) ?_ (by exact ⟨rfl, rfl, rfl, rfl, rfl, rfl, trivial⟩) (by (try dsimp only); omega)
     try dsimp only
     have : k = -1 := by omega
     subst this
     have hL : lastI t.hops x.ia t.hops.length = -1 := by rw [← hm]; rfl
     exact ⟨by omega, by omega, by rw [← meet_no (by omega) hx (by omega)]; exact hl, B, S⟩
  ·intro hge
   refine w_exit ?_
   iterate 2 refine x_then_exit ?_
   refine x_block_exit ?_
   refine x_s ?_
   refine w_s ?_
   refine w_g ?_
   refine t_g (fun w => b_path0 w) rfl ?_ rfl
   refine t_stn S sb_path rfl rfl rfl rfl (by simp [Value.oneCell']) ?_
   intro w34 b35 S
   have B := B.trans b35
   refine t_d ?_
   refine x_s ?_
   refine w_r ?_
   refine x_retc rfl rfl S.box ab_path sb_path rfl ?_
   have : i = -1 := by omega
   subst this
   have S := Sep.addNil (T := partT) (e := 82) S
   have S := S.pathShut (x := [])
   obtain ⟨fp, hO⟩ := (S.mono X0.size).head
   exact ⟨_, fp, rfl, by rw [← hl]; exact hO, ext_trans X0 B⟩
theorem make_len (s : Seg) (k i : Int) : (makePart s k i).hops.length ≤ s.hops.length := by
  unfold makePart
  split
  · split
    · show ((s.hops.drop i.toNat).reverse).length ≤ _; rw [List.length_reverse, List.length_drop]; omega
    · show (s.hops.drop i.toNat).length ≤ _; rw [List.length_drop]; omega
  · exact Nat.zero_le _
end Go.Proofs.YtdaecknfahgddaaGreat
namespace Go.Proofs.YtdaecknfahgddaaGreat
open Go.RowKit
set_option linter.unusedVariables false
set_option maxRecDepth 20000
section
variable {P : Program} {n : Nat} {ops : Array Oper} {Q : Exit → Act → World → Prop} {L : Frm} {w : World} {m : Md} {r : IT} {d : Nat} {ty : TypeId} {pos : String} {af : Array Edge}
theorem x_ret0 {fn : Func} {R : Ending → World → Prop} (hr : fn.results = #[]) (h : R (.returned (.tuple #[])) w) : WX n (bodyPost P fn R) .ret L w := by
  intro a ha
  exact bodyPost_ret (by simp [results, hr]) ha.defers h
end
end Go.Proofs.YtdaecknfahgddaaGreat
namespace Go.Proofs.YtdaecknfahgddaaGreat
open Go.RowKit
set_option linter.unusedVariables false
set_option maxRecDepth 20000
def computeMac (key : Int) (l : List Int) : Int := digest ([key] ++ l ++ [key])
def hopMac (key ts beta : Int) (h : Hop) : Int := computeMac key [ts, beta, h.ia, h.ing, h.eg, h.exp]
theorem impl_ComputeMAC (key : Int) (l : List Int) (v : Value) (w : World) (h : SlR intT w v l) (hn : l.length ≤ 1048576) : Calls Tryz.prog 173 #[I key, v] w fun e w' => e = .returned (I (computeMac key l)) ∧ Below w.heap.size w w' := by
  have X0 := Below.refl w.heap.size w
  refine enter Tryz.func173 rfl Tryz.ntmps173 rfl ?_
  refine w_s ?_
  refine w_g ?_
  have S := Sep.nil w
  have B := Below.refl w.heap.size w
  have Hb := Nat.le_refl w.heap.size
  refine t_a rfl ?_ rfl
  refine t_d ?_
  refine x_s ?_
  refine w_s ?_
  refine w_g ?_
  refine t_m rfl ?_ rfl
  refine t_lit (T := intT) (l := [key]) (css := ([key]).map fun a => [I a]) int_flat S (fun w => bs_int1 _ w) rfl rfl rfl rfl (by simp [maxLen]) (litR_int _) ?_ rfl rfl
  intro u6 w17 x18 S
  have B := bx Hb B x18
  refine t_m rfl ?_ rfl
  refine t_cat int_flat e_int S (by first | assumption | exact SlR.below ‹_› B) rfl rfl rfl (by first | omega | (simp [-List.length_flatMap]; omega)) (by (simp [maxLen, -List.length_flatMap]; try omega)) ?_ rfl
  intro v8 w19 x20 S
  have B := B.trans x20
  refine t_m rfl ?_ rfl
  refine t_lit (T := intT) (l := [key]) (css := ([key]).map fun a => [I a]) int_flat S (fun w => bs_int1 _ w) rfl rfl rfl rfl (by simp [maxLen]) (litR_int _) ?_ rfl rfl
  intro u10 w21 x22 S
  have B := bx Hb B x22
  have hR := S.sl
  have S := S.f1
  refine t_cat int_flat e_int S hR rfl rfl rfl (by first | omega | (simp [-List.length_flatMap]; omega)) (by (simp [maxLen, -List.length_flatMap]; try omega)) ?_ rfl
  intro v11 w23 x24 S
  have B := B.trans x24
  clear hR
  have S := S.f1.tail
  refine t_calls Tryz.call178 rfl (impl_Digest _ _ _ (S.sl) (by simp; omega)) ?_ rfl rfl
  refine t_a rfl ?_ rfl
  refine t_d ?_
  refine x_s ?_
  refine w_r ?_
  refine x_ret1 rfl rfl ?_
  exact ⟨rfl, ext_trans X0 B⟩
theorem spec_ComputeMAC (key : Int) (l : List Int) (v : Value) (w : World) (h : SlR intT w v l) (hn : l.length ≤ 1048576) : Calls Tryz.prog 174 #[I key, v] w fun e w' => e = .returned (I (computeMac key l)) ∧ Below w.heap.size w w' := by
  have X0 := Below.refl w.heap.size w
  refine enter Tryz.func174 rfl Tryz.ntmps174 rfl ?_
  refine w_s ?_
  refine w_g ?_
  have S := Sep.nil w
  have B := Below.refl w.heap.size w
  have Hb := Nat.le_refl w.heap.size
  refine t_a rfl ?_ rfl
  refine t_d ?_
  refine x_s ?_
  refine w_s ?_
  refine w_g ?_
  refine t_m rfl ?_ rfl
  refine t_lit (T := intT) (l := [key]) (css := ([key]).map fun a => [I a]) int_flat S (fun w => bs_int1 _ w) rfl rfl rfl rfl (by simp [maxLen]) (litR_int _) ?_ rfl rfl
  intro u6 w31 x32 S
  have B := bx Hb B x32
  refine t_m rfl ?_ rfl
  refine t_cat int_flat e_int S (by first | assumption | exact SlR.below ‹_› B) rfl rfl rfl (by first | omega | (simp [-List.length_flatMap]; omega)) (by (simp [maxLen, -List.length_flatMap]; try omega)) ?_ rfl
  intro v8 w33 x34 S
  have B := B.trans x34
  refine t_m rfl ?_ rfl
  refine t_lit (T := intT) (l := [key]) (css := ([key]).map fun a => [I a]) int_flat S (fun w => bs_int1 _ w) rfl rfl rfl rfl (by simp [maxLen]) (litR_int _) ?_ rfl rfl
  intro u10 w35 x36 S
  have B := bx Hb B x36
  have hR := S.sl
  have S := S.f1
  refine t_cat int_flat e_int S hR rfl rfl rfl (by first | omega | (simp [-List.length_flatMap]; omega)) (by (simp [maxLen, -List.length_flatMap]; try omega)) ?_ rfl
  intro v11 w37 x38 S
  have B := B.trans x38
  clear hR
  have S := S.f1.tail
  refine t_calls Tryz.call179 rfl (spec_Digest _ _ _ (S.sl) (by simp; omega)) ?_ rfl rfl
  refine t_a rfl ?_ rfl
  refine t_d ?_
  refine x_s ?_
  refine w_r ?_
  refine x_ret1 rfl rfl ?_
  exact ⟨rfl, ext_trans X0 B⟩
theorem spec_HopMAC (key ts beta : Int) (x : Hop) (w : World) : Calls Tryz.prog 163 #[I key, I ts, I beta, .agg #[I x.ia, I x.ing, I x.eg, I x.exp, I x.mac]] w fun e w' => e = .returned (I (hopMac key ts beta x)) ∧ Below w.heap.size w w' := by
 have h := hop_mkv w x
 have X0 := Below.refl w.heap.size w
 refine enter Tryz.func163 rfl Tryz.ntmps163 rfl ?_
 refine w_s ?_
 refine w_g ?_
 refine t_boxr ‹_› rfl ?_ rfl rfl
 intro p7 w39 x40 hp7
 replace h := h.below x40
 have X0 := ext_trans X0 x40
 have S := Sep.nil w39
 have B := Below.refl w39.heap.size w39
 have Hb := Nat.le_refl w39.heap.size
 refine t_a rfl ?_ rfl
 refine t_d ?_
 refine x_s ?_
 refine w_s ?_
 refine w_g ?_
 iterate 3 refine t_m rfl ?_ rfl
 refine t_fld ln_hop_0 ‹_› fb_hop_0 rfl ?_ rfl
 intro p12 hp12
 refine t_ldi ‹_› ab_int B rfl ?_ rfl
 refine t_fld ln_hop_1 ‹_› fb_hop_1 rfl ?_ rfl
 intro p14 hp14
 refine t_ldi ‹_› ab_int B rfl ?_ rfl
 refine t_fld ln_hop_2 ‹_› fb_hop_2 rfl ?_ rfl
 intro p16 hp16
 refine t_ldi ‹_› ab_int B rfl ?_ rfl
 refine t_fld ln_hop_3 ‹_› fb_hop_3 rfl ?_ rfl
 intro p18 hp18
 refine t_ldi ‹_› ab_int B rfl ?_ rfl
 refine t_lit (T := intT) (l := [ts, beta, x.ia, x.ing, x.eg, x.exp]) (css := ([ts, beta, x.ia, x.ing, x.eg, x.exp]).map fun a => [I a]) int_flat S (fun w => bs_int6 _ _ _ _ _ _ w) rfl rfl rfl rfl (by simp [maxLen]) (litR_int _) ?_ rfl rfl
 intro u20 w41 x42 S
 have B := bx Hb B x42
 refine t_x Tryz.call174 rfl (spec_ComputeMAC _ _ _ _ (S.sl) (by simp)) ?_ rfl rfl
 intro w43 x44
 have B := bx Hb B x44
 have S := S.below x44
 refine t_a rfl ?_ rfl
 refine t_d ?_
 refine x_s ?_
 refine w_r ?_
 refine x_ret1 rfl rfl ?_
 exact ⟨rfl, ext_trans X0 B⟩
end Go.Proofs.YtdaecknfahgddaaGreat
namespace Go.Proofs.YtdaecknfahgddaaGreat
open Go.RowKit
set_option linter.unusedVariables false
set_option maxRecDepth 20000
def isAS (t : Topo) (r : Int) : Bool := inR r 0 ((t.ases.length : Int) - 1)
def asKey (t : Topo) (r : Int) : Int := match t.ases[r.toNat]? with
  | some a => a.key
  | none => 0
def verifyHop (t : Topo) (ts beta : Int) (h : Hop) : Bool := validHop h && (isAS t h.ia && decide (h.mac = hopMac (asKey t h.ia) ts beta h))
theorem impl_isAS (t : Topo) (v : Value) (r : Int) (w : World) (h : VA topoT w v t) (hz : sz_topo t ≤ 1048576) : Calls Tryz.prog 157 #[v, I r] w fun e w' => e = .returned (.bool (isAS t r)) ∧ Below w.heap.size w w' := by
  have hz' : t.ases.length ≤ 1048576 := by unfold sz_topo at hz; omega
  have X0 := Below.refl w.heap.size w
  refine enter Tryz.func157 rfl Tryz.ntmps157 rfl ?_
  refine w_s ?_
  refine w_g ?_
  refine t_boxr ‹_› rfl ?_ rfl rfl
  intro p2 w1 x2 hp2
  replace h := h.below x2
  have X0 := ext_trans X0 x2
  have S := Sep.nil w1
  have B := Below.refl w1.heap.size w1
  have Hb := Nat.le_refl w1.heap.size
  refine t_a rfl ?_ rfl
  refine t_d ?_
  refine x_s ?_
  refine w_s ?_
  refine w_g ?_
  refine t_m rfl ?_ rfl
  refine t_fld ln_topo_0 ‹_› fb_topo_0 rfl ?_ rfl
  intro p6 hp6
  refine t_lds ‹_› ab_s_asn B rfl ?_ rfl
  intro v7 hv7
  refine t_len e_asn ‹_› rfl rfl ?_ rfl
  refine t_sub rfl rfl (by omega) ?_ rfl
  refine t_calls Tryz.call61 rfl (impl_InRange _ _ _ _) ?_ rfl rfl
  refine t_a rfl ?_ rfl
  refine t_d ?_
  refine x_s ?_
  refine w_r ?_
  refine x_ret1 rfl rfl ?_
  exact ⟨rfl, ext_trans X0 B⟩
theorem spec_l5Realm (t : Topo) (v : Value) (r : Int) (w : World) (h : VA topoT w v t) (hz : sz_topo t ≤ 1048576) : Calls Tryz.prog 125 #[v, I r] w fun e w' => e = .returned (.bool (isAS t r)) ∧ Below w.heap.size w w' := by
  have hz' : t.ases.length ≤ 1048576 := by unfold sz_topo at hz; omega
  have X0 := Below.refl w.heap.size w
  refine enter Tryz.func125 rfl Tryz.ntmps125 rfl ?_
  refine w_s ?_
  refine w_g ?_
  refine t_boxr ‹_› rfl ?_ rfl rfl
  intro p2 w3 x4 hp2
  replace h := h.below x4
  have X0 := ext_trans X0 x4
  have S := Sep.nil w3
  have B := Below.refl w3.heap.size w3
  have Hb := Nat.le_refl w3.heap.size
  refine t_a rfl ?_ rfl
  refine t_d ?_
  refine x_s ?_
  refine w_s ?_
  refine w_g ?_
  refine t_m rfl ?_ rfl
  refine t_fld ln_topo_0 ‹_› fb_topo_0 rfl ?_ rfl
  intro p6 hp6
  refine t_lds ‹_› ab_s_asn B rfl ?_ rfl
  intro v7 hv7
  refine t_len e_asn ‹_› rfl rfl ?_ rfl
  refine t_sub rfl rfl (by omega) ?_ rfl
  refine t_calls Tryz.call64 rfl (spec_l1In _ _ _ _) ?_ rfl rfl
  refine t_a rfl ?_ rfl
  refine t_d ?_
  refine x_s ?_
  refine w_r ?_
  refine x_ret1 rfl rfl ?_
  exact ⟨rfl, ext_trans X0 B⟩
end Go.Proofs.YtdaecknfahgddaaGreat
namespace Go.Proofs.YtdaecknfahgddaaGreat
open Go.RowKit
set_option linter.unusedVariables false
theorem et_step : ElemT Tryz.prog 47 78 3 24 := ElemT.mk' Tryz.underlying47 (z := .agg #[I 0, I 0, I 0]) (by kernel_rfl) rfl (by omega)
end Go.Proofs.YtdaecknfahgddaaGreat
namespace Go.Proofs.YtdaecknfahgddaaGreat
open Go.RowKit
set_option linter.unusedVariables false
def hopIa (x : Part) (j : Nat) : Int := match x.hops[j]? with
  | none => 0
  | some h => h.ia
def lastOf (l : List Stp) : Stp := (l[l.length - 1]?).getD ⟨0, 0, 0⟩
def firstOf (l : List Stp) : Stp := (l[0]?).getD ⟨0, 0, 0⟩
/-- Whether hop j of part i is the same AS as_ the last step so far. -/
def joinAt (i : Nat) (x : Part) (l : List Stp) (j : Nat) : Bool := decide (0 < i) && (decide (j = 0) && (decide (0 < l.length) && ((lastOf l).ia == hopIa x j)))
def addHop (i : Nat) (x : Part) (l : List Stp) (j : Nat) : List Stp :=
  if joinAt i x l j then l.set (l.length - 1) { lastOf l with eg := partOut x j } else l ++ [⟨hopIa x j, partIn x j, partOut x j⟩]
def hopsTo (i : Nat) (x : Part) (l : List Stp) (j : Nat) : List Stp := (List.range j).foldl (addHop i x) l
def addPart (p : Path) (l : List Stp) (i : Nat) : List Stp := match p[i]? with
  | none => l
  | some x => hopsTo i x l x.hops.length
def rawSteps (p : Path) (k : Nat) : List Stp := (List.range k).foldl (addPart p) []
def cutFirst (l : List Stp) : List Stp := l.set 0 { firstOf l with ing := 0 }
def cutLast (l : List Stp) : List Stp := l.set (l.length - 1) { lastOf l with eg := 0 }
def pathSteps (p : Path) : List Stp := cutLast (cutFirst (rawSteps p p.length))
theorem hopsTo_succ (i : Nat) (x : Part) (l : List Stp) (j : Nat) : hopsTo i x l (j + 1) = addHop i x (hopsTo i x l j) j := by
  unfold hopsTo; rw [List.range_succ, List.foldl_append]; rfl
theorem rawSteps_succ {p : Path} {k : Nat} {x : Part} (h : p[k]? = some x) : rawSteps p (k + 1) = hopsTo k x (rawSteps p k) x.hops.length := by
  unfold rawSteps; rw [List.range_succ, List.foldl_append]
  show addPart p _ k = _
  unfold addPart; rw [h]
theorem addHop_len (i : Nat) (x : Part) (l : List Stp) (j : Nat) : (addHop i x l j).length ≤ l.length + 1 := by
  unfold addHop; split <;> simp
theorem hopsTo_len (i : Nat) (x : Part) (l : List Stp) (j : Nat) : (hopsTo i x l j).length ≤ l.length + j := by
  induction j with
  | zero => simp [hopsTo]
  | succ j ih => rw [hopsTo_succ]; have := addHop_len i x (hopsTo i x l j) j; omega
theorem rawSteps_len (p : Path) (k : Nat) : (rawSteps p k).length ≤ ((p.take k).map fun x => x.hops.length).sum := by
  induction k with
  | zero => simp [rawSteps]
  | succ k ih =>
    cases h : p[k]? with
    | none =>
      have e : rawSteps p (k + 1) = rawSteps p k := by
        unfold rawSteps; rw [List.range_succ, List.foldl_append]
        show addPart p _ k = _
        unfold addPart; rw [h]
      have h2 : p.length ≤ k := List.getElem?_eq_none_iff.1 h
      rw [e, List.take_of_length_le (by omega)]
      rw [List.take_of_length_le (by omega)] at ih
      exact ih
    | some x =>
      rw [rawSteps_succ h, take_succ h, List.map_append, List.sum_append]
      have := hopsTo_len k x (rawSteps p k) x.hops.length
      simp only [List.map_cons, List.map_nil, List.sum_cons, List.sum_nil]
      omega
theorem take_hops_le (p : Path) (k : Nat) : ((p.take k).map fun x => x.hops.length).sum ≤ sz_path p := by
  have h1 : (p.map fun x => x.hops.length).sum = ((p.take k).map fun x => x.hops.length).sum + ((p.drop k).map fun x => x.hops.length).sum := by
    rw [← List.sum_append, ← List.map_append, List.take_append_drop]
  have h2 : sz_path p = List.length p + (p.map fun x => x.hops.length).sum := rfl
  omega
/-- The bound that each append needs. -/
theorem hopsTo_bound {p : Path} {k : Nat} {x : Part} (h : p[k]? = some x) {j : Nat} (hj : j ≤ x.hops.length) : (hopsTo k x (rawSteps p k) j).length ≤ sz_path p := by
  have h1 := hopsTo_len k x (rawSteps p k) j
  have h2 := rawSteps_len p k
  have h3 := take_hops_le p (k + 1)
  rw [take_succ h, List.map_append, List.sum_append] at h3
  simp only [List.map_cons, List.map_nil, List.sum_cons, List.sum_nil] at h3
  omega
theorem rawSteps_bound (p : Path) (k : Nat) : (rawSteps p k).length ≤ sz_path p := Nat.le_trans (rawSteps_len p k) (take_hops_le p k)
theorem pathSteps_len (p : Path) : (pathSteps p).length ≤ sz_path p := by
  have := rawSteps_bound p p.length
  simpa [pathSteps, cutLast, cutFirst] using this
theorem hops_le_path {p : Path} {x : Part} (h : x ∈ p) : x.hops.length ≤ sz_path p := by
  have := le_sum_of_mem (List.mem_map.2 ⟨x, h, rfl⟩ : sz_part x ∈ p.map sz_part)
  show _ ≤ List.length p + _
  have e : sz_part x = x.hops.length := rfl
  omega
theorem lastOf_at {l : List Stp} {s : Stp} (h : l[l.length - 1]? = some s) : lastOf l = s := by unfold lastOf; rw [h]; rfl
theorem firstOf_at {l : List Stp} {s : Stp} (h : l[0]? = some s) : firstOf l = s := by unfold firstOf; rw [h]; rfl
theorem hopIa_at {x : Part} {j : Nat} {y : Hop} (h : x.hops[j]? = some y) : hopIa x j = y.ia := by unfold hopIa; rw [h]
theorem addHop_join {i : Nat} {x : Part} {l : List Stp} {j : Nat} (h : joinAt i x l j = true) : addHop i x l j = l.set (l.length - 1) { lastOf l with eg := partOut x j } := by unfold addHop; rw [h]; rfl
theorem addHop_new {i : Nat} {x : Part} {l : List Stp} {j : Nat} (h : joinAt i x l j = false) : addHop i x l j = l ++ [⟨hopIa x j, partIn x j, partOut x j⟩] := by unfold addHop; rw [h]; rfl
theorem take_set {α : Type} (l : List α) (a : α) (h : 0 < l.length) : l.take (l.length - 1) ++ [a] = l.set (l.length - 1) a := by
  rw [List.set_eq_take_append_cons_drop, if_pos (by omega), List.drop_eq_nil_of_le (by omega)]
end Go.Proofs.YtdaecknfahgddaaGreat
namespace Go.Proofs.YtdaecknfahgddaaGreat
open Go.RowKit
set_option linter.unusedVariables false
theorem step_put2 {base : Nat} {w : World} {cs : List Value} {s : Stp} {f : List Nat} (h : stepT.O base w cs s f) (v : Int) : stepT.O base w (cs.set 2 (I v)) { s with eg := v } f := by
  have e : cs = [I s.ia, I s.ing, I s.eg] := h.1
  subst e
  exact ⟨rfl, h.2⟩
theorem step_put1 {base : Nat} {w : World} {cs : List Value} {s : Stp} {f : List Nat} (h : stepT.O base w cs s f) (v : Int) : stepT.O base w (cs.set 1 (I v)) { s with ing := v } f := by
  have e : cs = [I s.ia, I s.ing, I s.eg] := h.1
  subst e
  exact ⟨rfl, h.2⟩
set_option maxRecDepth 100000 in
set_option maxHeartbeats 4000000 in
theorem impl_PathSteps (p : Path) (cs : List Value) (w : World) (h : pathT.R w cs p) (hz : sz_path p ≤ 1048576) (hl : lenOk_path p) (hg : rng_path p) :
  Calls Tryz.prog 28 #[.agg cs.toArray] w fun r w' => ∃ v fp, r = .returned v ∧ SlO stepT 78 w.heap.size w' v (pathSteps p) fp ∧ Below w.heap.size w w' := by
 obtain ⟨A, c, rfl, ⟨h, _⟩⟩ := path_form h
 obtain ⟨n, H⟩ : ∃ n, Hid (n = p.length) := ⟨_, rfl⟩
 have hn : n ≤ 1048576 := by rw [H.out]; have : sz_path p = List.length p + (p.map sz_part).sum := rfl; omega
 have Hz := hid hz
 clear hz hl hg
 rw [← H.out] at h ⊢
 have hb0 : Below w.heap.size w (w.alloc (.cells #[.slice A n c] 30)) := ext_alloc1 _ _
 go_enter Tryz.func28, Tryz.ntmps28
 go_wp2
 go_loopw [3, 12] (fun v i wr => ∃ k : Nat, k ≤ n ∧ i = I k ∧ Below w.heap.size w wr ∧ ∃ fp, SlO stepT 78 w.heap.size wr v (rawSteps p k) fp) (fun _ i _ => n - (intOf i).toNat)
 case atStart => exact ⟨0, by omega, rfl, hb0, [], SlO.nil⟩
 case round =>
  obtain ⟨k, hk, rfl, hb, fp, hO⟩ := hrel
  clear hb0
  obtain ⟨wo, rfl⟩ : ∃ wo : World, wo = wr := ⟨_, rfl⟩
  by_cases hlt : k < n
  ·obtain ⟨g, o, q, x, B, d, e, hg, hxk, hin, hd, c0, c1, c2, c3⟩ := part_at h (by rw [← H.out]; exact hlt)
   rw [← H.out] at e
   cases e
   replace c0 := ck hb c0
   replace c1 := ck hb c1
   replace c2 := ck hb c2
   replace c3 := ck hb c3
   have hm2 : x.hops.length ≤ 1048576 := Nat.le_trans (hops_le_path (List.mem_of_getElem? hxk.out)) Hz.out
   obtain ⟨m, Hm⟩ : ∃ m, Hid (m = x.hops.length) := ⟨_, rfl⟩
   rw [← Hm.out] at hin hd hm2 c3
   have Hbd : Hid (∀ j, j ≤ m → (hopsTo k x (rawSteps p k) j).length ≤ 1048576) := fun j hj => Nat.le_trans (hopsTo_bound hxk.out (by rw [← Hm.out]; exact hj)) Hz.out
   have hsuc : Hid (rawSteps p (k + 1) = hopsTo k x (rawSteps p k) m) := by show _ = _; rw [Hm.out]; exact rawSteps_succ hxk.out
   obtain ⟨l0, Hl0⟩ : ∃ l0, Hid (l0 = rawSteps p k) := ⟨_, rfl⟩
   rw [← Hl0.out] at hO hsuc Hbd
   have hz0 : w.heap.size ≤ wo.heap.size := hb.size
   have C0 := hid c0
   have C1 := hid c1
   have C2 := hid c2
   have C3 := hid c3
   have hOa := hid (hO.alloc (.cells #[I x.kind, I x.ts, I x.beta, .slice B m d] 82))
   have hfr := hid fun hm => Nat.lt_irrefl _ (hO.size_ok wo.heap.size hm).2
   have hba := hid (ext_alloc hb (.cells #[I x.kind, I x.ts, I x.beta, .slice B m d] 82))
   go_wp2
   clear c0 c1 c2 c3 hO
   go_loopw [3, 20] (fun v i wr => ∃ j : Nat, j ≤ m ∧ i = I j ∧ Below w.heap.size w wr ∧ wo.heap.size + 1 ≤ wr.heap.size ∧ (wr.cell? ⟨wo.heap.size, 0, none⟩ = some (I x.kind) ∧ wr.cell? ⟨wo.heap.size, 1, none⟩ = some (I x.ts) ∧ wr.cell? ⟨wo.heap.size, 2, none⟩ = some (I x.beta) ∧ wr.cell? ⟨wo.heap.size, 3, none⟩ = some (.slice B m d)) ∧ ∃ fp, SlO stepT 78 w.heap.size wr v (hopsTo k x l0 j) fp ∧ wo.heap.size ∉ fp) (fun _ i _ => m - (intOf i).toNat)
   case atStart => exact ⟨0, by omega, rfl, hba.out, by simp, ⟨by simp, by simp, by simp, by simp⟩, fp, hOa.out, hfr.out⟩
   case round =>
    obtain ⟨j, hj, rfl, hbi, hs2, ⟨q0, q1, q2, q3⟩, fpi, hOi, hni⟩ := hrel
    clear hOa hfr hba
    obtain ⟨wi, rfl⟩ : ∃ wi : World, wi = wr := ⟨_, rfl⟩
    by_cases hjl : j < m
    ·obtain ⟨g', o', q', y, e', hg', hyj, b0, b1, b2, b3, b4⟩ := hop_at hin (by rw [← Hm.out]; exact hjl)
     rw [← Hm.out] at e'
     cases e'
     replace b0 := ck hbi b0
     replace b1 := ck hbi b1
     replace b2 := ck hbi b2
     replace b3 := ck hbi b3
     replace b4 := ck hbi b4
     obtain ⟨li, Hli⟩ : ∃ li, Hid (li = hopsTo k x l0 j) := ⟨_, rfl⟩
     have hlen : li.length ≤ 1048576 := by rw [Hli.out]; exact Hbd.out j hj
     have Hnx : Hid (hopsTo k x l0 (j + 1) = addHop k x li j) := by show _ = _; rw [hopsTo_succ, Hli.out]
     rw [← Hli.out] at hOi
     obtain ⟨Av, cv, ev, _⟩ := hOi.form
     subst ev
     obtain ⟨wj, Hwj⟩ : ∃ wj, Hid (wj = wi.alloc (.cells #[I y.ia, I y.ing, I y.eg, I y.exp, I y.mac] 86)) := ⟨_, rfl⟩
     have Hsz : Hid (wj.heap.size = wi.heap.size + 1) := by show _ = _; rw [Hwj.out]; simp
     have hij : Below wi.heap.size wi wj := by rw [Hwj.out]; exact ext_alloc1 _ _
     have HS : Hid (∀ w', Below wj.heap.size wj w' → (w'.cell? ⟨wo.heap.size, 0, none⟩ = some (I x.kind) ∧ w'.cell? ⟨wo.heap.size, 1, none⟩ = some (I x.ts) ∧ w'.cell? ⟨wo.heap.size, 2, none⟩ = some (I x.beta) ∧ w'.cell? ⟨wo.heap.size, 3, none⟩ = some (.slice (some ⟨g', o', none⟩) m d) ∧ w'.cell? ⟨wi.heap.size, 0, none⟩ = some (I y.ia))) := fun w' hw => by
      have hx := ext_trans hij hw
      exact ⟨ck hx q0, ck hx q1, ck hx q2, ck hx q3, ck hw (by rw [Hwj.out]; simp)⟩
     have hR : ∀ w' : World, Below wj.heap.size wj w' → partT.R w' [I x.kind, I x.ts, I x.beta, .slice (some ⟨g', o', none⟩) m d] x := fun w' hw => by
      have := part_mk (d := x) (A3 := some ⟨g', o', none⟩) (cA3 := d) (w := w') (by rw [← Hm.out]; exact hin.below (ext_trans hbi (ext_trans hij hw)))
      rw [← Hm.out] at this
      exact this
     obtain ⟨vi, Hvi⟩ : ∃ vi, Hid (vi = partIn x j) := ⟨_, rfl⟩
     obtain ⟨vo, Hvo⟩ : ∃ vo, Hid (vo = partOut x j) := ⟨_, rfl⟩
     have HI : Hid (∀ w', Below wj.heap.size wj w' → Calls Tryz.prog 81 #[.agg #[I x.kind, I x.ts, I x.beta, .slice (some ⟨g', o', none⟩) m d], I j] w' fun e w'' => e = .returned (I vi) ∧ Below w'.heap.size w' w'') := fun w' hw => by
      have := impl_PartIngress x _ j w' (hR w' hw) (by rw [← Hm.out]; exact hm2) (by omega)
      rw [Int.toNat_natCast, ← Hvi.out] at this
      exact this
     have HE : Hid (∀ w', Below wj.heap.size wj w' → Calls Tryz.prog 80 #[.agg #[I x.kind, I x.ts, I x.beta, .slice (some ⟨g', o', none⟩) m d], I j] w' fun e w'' => e = .returned (I vo) ∧ Below w'.heap.size w' w'') := fun w' hw => by
      have := impl_PartEgress x _ j w' (hR w' hw) (by rw [← Hm.out]; exact hm2) (by omega)
      rw [Int.toNat_natCast, ← Hvo.out] at this
      exact this
     have hOj : Hid (SlO stepT 78 w.heap.size wj (.slice Av li.length cv) li fpi) := hOi.below hij
     have Hni := hid hni
     have Hni2 : Hid (wi.heap.size ∉ fpi) := fun hm => Nat.lt_irrefl _ (hOi.size_ok _ hm).2
     clear hR
     rcases Nat.eq_zero_or_pos k with hk0 | hk0
     ·have g1 : decide (0 < k) = false := by simp; omega
      have g1' : decide ((0 : Int) < k) = false := by simp; omega
      have hJ : Hid (joinAt k x li j = false) := by show _ = _; simp [joinAt, hk0]
      clear hk0
      go_wp2
      rw [← Hwj.out]
      go_quiet (fail)
      go_wp2
      go_region_held3 (fun w' => (w'.cell? ⟨wo.heap.size, 0, none⟩ = some (I x.kind) ∧ w'.cell? ⟨wo.heap.size, 1, none⟩ = some (I x.ts) ∧ w'.cell? ⟨wo.heap.size, 2, none⟩ = some (I x.beta) ∧ w'.cell? ⟨wo.heap.size, 3, none⟩ = some (.slice (some ⟨g', o', none⟩) m d) ∧ w'.cell? ⟨wi.heap.size, 0, none⟩ = some (I y.ia)))
       (first | exact HS.out _ ((below_drewN (Below.refl _ _) _).drew) | exact HS.out _ x1 | exact HS.out _ x2 | exact HS.out _ (ext_alloc x2 _) | exact z3 | go_keep)
       (first | (go_at_call 81; refine (HI.out _ ((below_drewN (Below.refl _ _) _).drew)).mono ?_; rintro e w1 ⟨rfl, hb1⟩; have x1 := ext_trans ((below_drewN (Below.refl _ wj) _).drew) hb1) | (go_at_call 80; refine (HE.out _ x1).mono ?_; rintro e w2 ⟨rfl, hb2⟩; have x2 := ext_trans x1 hb2) | (refine step_cat step_flat (.tmp 55) (.tmp 65) et_step ((hOj.out.below x2).alloc _) (lit_one w2 78 (⟨y.ia, vi, vo⟩ : Stp) 1 w2.heap.size (Nat.le_refl _) rfl #[I y.ia, I vi, I vo] (fun _ => rfl)) (by simp; omega) (by simp [maxLen]; omega) (by have := x2.size; have := hbi.size; have := Hsz.out; simp; omega) (by rfl) (by rfl) (by rfl) (by rfl) ?_; intro v3 w3 fp3 hO3 hfp3 hkp3; have z2 := HS.out _ (ext_alloc x2 (.cells #[I y.ia, I vi, I vo] 78)); have z3 := And.intro (hkp3.ck z2.1 Hni.out) (And.intro (hkp3.ck z2.2.1 Hni.out) (And.intro (hkp3.ck z2.2.2.1 Hni.out) (And.intro (hkp3.ck z2.2.2.2.1 Hni.out) (hkp3.ck z2.2.2.2.2 Hni2.out))))))
      have y3 : Below w.heap.size w w3 := (ext_trans hbi (ext_trans hij (ext_alloc x2 _))).trans (hkp3.below (fun b hb => (hOj.out.size_ok b hb).1) (by have := x2.size; have := hbi.size; have := Hsz.out; simp; omega))
      have z4 : wo.heap.size + 1 ≤ w3.heap.size := by have := hkp3.size; have := x2.size; have := Hsz.out; simp at *; omega
      go_wp2
      go_roundw
      case rel =>
       refine ⟨j + 1, by omega, by go_num, y3, z4, ⟨z3.1, z3.2.1, z3.2.2.1, z3.2.2.2.1⟩, fp3, by rw [Hnx.out, addHop_new hJ.out, hopIa_at hyj.out, ← Hvi.out, ← Hvo.out]; exact hO3, fun hm => ?_⟩
       rcases hfp3 _ hm with hm | hm
       ·exact Hni.out hm
       ·have := x2.size; have := Hsz.out; simp at hm; omega
      case measure => simp [intOf]; omega
     ·have g1 : decide (0 < k) = true := by simp; omega
      have g1' : decide ((0 : Int) < k) = true := by simp; omega
      rcases Nat.eq_zero_or_pos j with hj0 | hj0
      ·have g2 : ((j : Int) == 0) = true := by simp; omega
       have g2' : (j == 0) = true := by simp; omega
       rcases Nat.eq_zero_or_pos li.length with hl0 | hl0
       ·have g3 : decide ((1 : Int) ≤ (li.length : Int)) = false := by simp; omega
        have hJ : Hid (joinAt k x li j = false) := by show _ = _; simp [joinAt, hl0]
        clear hj0 hl0 hk0
        go_wp2
        rw [← Hwj.out]
        go_quiet (fail)
        go_wp2
        go_region_held3 (fun w' => (w'.cell? ⟨wo.heap.size, 0, none⟩ = some (I x.kind) ∧ w'.cell? ⟨wo.heap.size, 1, none⟩ = some (I x.ts) ∧ w'.cell? ⟨wo.heap.size, 2, none⟩ = some (I x.beta) ∧ w'.cell? ⟨wo.heap.size, 3, none⟩ = some (.slice (some ⟨g', o', none⟩) m d) ∧ w'.cell? ⟨wi.heap.size, 0, none⟩ = some (I y.ia)))
         (first | exact HS.out _ ((below_drewN (Below.refl _ _) _).drew) | exact HS.out _ x1 | exact HS.out _ x2 | exact HS.out _ (ext_alloc x2 _) | exact z3 | go_keep)
         (first | (go_at_call 81; refine (HI.out _ ((below_drewN (Below.refl _ _) _).drew)).mono ?_; rintro e w1 ⟨rfl, hb1⟩; have x1 := ext_trans ((below_drewN (Below.refl _ wj) _).drew) hb1) | (go_at_call 80; refine (HE.out _ x1).mono ?_; rintro e w2 ⟨rfl, hb2⟩; have x2 := ext_trans x1 hb2) | (refine step_cat step_flat (.tmp 55) (.tmp 65) et_step ((hOj.out.below x2).alloc _) (lit_one w2 78 (⟨y.ia, vi, vo⟩ : Stp) 1 w2.heap.size (Nat.le_refl _) rfl #[I y.ia, I vi, I vo] (fun _ => rfl)) (by simp; omega) (by simp [maxLen]; omega) (by have := x2.size; have := hbi.size; have := Hsz.out; simp; omega) (by rfl) (by rfl) (by rfl) (by rfl) ?_; intro v3 w3 fp3 hO3 hfp3 hkp3; have z2 := HS.out _ (ext_alloc x2 (.cells #[I y.ia, I vi, I vo] 78)); have z3 := And.intro (hkp3.ck z2.1 Hni.out) (And.intro (hkp3.ck z2.2.1 Hni.out) (And.intro (hkp3.ck z2.2.2.1 Hni.out) (And.intro (hkp3.ck z2.2.2.2.1 Hni.out) (hkp3.ck z2.2.2.2.2 Hni2.out))))))
        have y3 : Below w.heap.size w w3 := (ext_trans hbi (ext_trans hij (ext_alloc x2 _))).trans (hkp3.below (fun b hb => (hOj.out.size_ok b hb).1) (by have := x2.size; have := hbi.size; have := Hsz.out; simp; omega))
        have z4 : wo.heap.size + 1 ≤ w3.heap.size := by have := hkp3.size; have := x2.size; have := Hsz.out; simp at *; omega
        go_wp2
        go_roundw
        case rel =>
         refine ⟨j + 1, by omega, by go_num, y3, z4, ⟨z3.1, z3.2.1, z3.2.2.1, z3.2.2.2.1⟩, fp3, by rw [Hnx.out, addHop_new hJ.out, hopIa_at hyj.out, ← Hvi.out, ← Hvo.out]; exact hO3, fun hm => ?_⟩
         rcases hfp3 _ hm with hm | hm
         ·exact Hni.out hm
         ·have := x2.size; have := Hsz.out; simp at hm; omega
        case measure => simp [intOf]; omega
       ·have g3 : decide ((1 : Int) ≤ (li.length : Int)) = true := by simp; omega
        obtain ⟨L, HL⟩ : ∃ L, li.length = L + 1 := ⟨li.length - 1, by omega⟩
        obtain ⟨gs, os, qs, sl, es, hgs, hsl, s0, s1, s2⟩ := step_at (k := L) hOi.read (by omega)
        have hL : lastOf li = sl := lastOf_at (by rw [HL]; exact hsl.out)
        obtain ⟨ga, ca, ea, hga, hgb, hgc, hgd, hgf⟩ := hOi.addr (by omega)
        cases ea
        cases es
        rw [Nat.zero_add] at s0 s1 s2
        have hL2 : L ≤ 1048576 := by omega
        have hL3 : L < L + 1 := Nat.lt_succ_self L
        rw [HL] at hOi hOj g3 ⊢
        replace s0 := ck hij s0
        replace s1 := ck hij s1
        replace s2 := ck hij s2
        have t0 : wj.cell? ⟨wi.heap.size, 0, none⟩ = some (I y.ia) := by rw [Hwj.out]; simp
        have HL' := hid HL
        cases g4 : (sl.ia == y.ia)
        ·have hJ : Hid (joinAt k x li j = false) := by show _ = _; simp only [joinAt, hL, hopIa_at hyj.out, g4, Bool.and_false]
         clear hj0 hk0 hl0 HL hL
         go_wp2
         rw [← Hwj.out]
         go_quiet (fail)
         go_wp2
         go_region_held3 (fun w' => (w'.cell? ⟨wo.heap.size, 0, none⟩ = some (I x.kind) ∧ w'.cell? ⟨wo.heap.size, 1, none⟩ = some (I x.ts) ∧ w'.cell? ⟨wo.heap.size, 2, none⟩ = some (I x.beta) ∧ w'.cell? ⟨wo.heap.size, 3, none⟩ = some (.slice (some ⟨g', o', none⟩) m d) ∧ w'.cell? ⟨wi.heap.size, 0, none⟩ = some (I y.ia)))
          (first | exact HS.out _ ((below_drewN (Below.refl _ _) _).drew) | exact HS.out _ x1 | exact HS.out _ x2 | exact HS.out _ (ext_alloc x2 _) | exact z3 | go_keep)
          (first | (go_at_call 81; refine (HI.out _ ((below_drewN (Below.refl _ _) _).drew)).mono ?_; rintro e w1 ⟨rfl, hb1⟩; have x1 := ext_trans ((below_drewN (Below.refl _ wj) _).drew) hb1) | (go_at_call 80; refine (HE.out _ x1).mono ?_; rintro e w2 ⟨rfl, hb2⟩; have x2 := ext_trans x1 hb2) | (refine step_cat step_flat (.tmp 55) (.tmp 65) et_step ((hOj.out.below x2).alloc _) (lit_one w2 78 (⟨y.ia, vi, vo⟩ : Stp) 1 w2.heap.size (Nat.le_refl _) rfl #[I y.ia, I vi, I vo] (fun _ => rfl)) (by simp; omega) (by simp [maxLen]; omega) (by have := x2.size; have := hbi.size; have := Hsz.out; simp; omega) (by rfl) (by rfl) (by rfl) (by rfl) ?_; intro v3 w3 fp3 hO3 hfp3 hkp3; have z2 := HS.out _ (ext_alloc x2 (.cells #[I y.ia, I vi, I vo] 78)); have z3 := And.intro (hkp3.ck z2.1 Hni.out) (And.intro (hkp3.ck z2.2.1 Hni.out) (And.intro (hkp3.ck z2.2.2.1 Hni.out) (And.intro (hkp3.ck z2.2.2.2.1 Hni.out) (hkp3.ck z2.2.2.2.2 Hni2.out))))))
         have y3 : Below w.heap.size w w3 := (ext_trans hbi (ext_trans hij (ext_alloc x2 _))).trans (hkp3.below (fun b hb => (hOj.out.size_ok b hb).1) (by have := x2.size; have := hbi.size; have := Hsz.out; simp; omega))
         have z4 : wo.heap.size + 1 ≤ w3.heap.size := by have := hkp3.size; have := x2.size; have := Hsz.out; simp at *; omega
         go_wp2
         go_roundw
         case rel =>
          refine ⟨j + 1, by omega, by go_num, y3, z4, ⟨z3.1, z3.2.1, z3.2.2.1, z3.2.2.2.1⟩, fp3, by rw [Hnx.out, addHop_new hJ.out, hopIa_at hyj.out, ← Hvi.out, ← Hvo.out]; exact hO3, fun hm => ?_⟩
          rcases hfp3 _ hm with hm | hm
          ·exact Hni.out hm
          ·have := x2.size; have := Hsz.out; simp at hm; omega
         case measure => simp [intOf]; omega
        ·have hJ : Hid (joinAt k x li j = true) := by show _ = _; simp only [joinAt, hL, hopIa_at hyj.out, g4]; simp; omega
         have HLa := hid hL
         clear hj0 hk0 hl0 HL hL
         go_wp2
         rw [← Hwj.out]
         go_quiet (fail)
         replace q0 := ck hij q0
         replace q1 := ck hij q1
         replace q2 := ck hij q2
         replace q3 := ck hij q3
         go_wp2_with (fail)
         refine (HE.out _ (below_drewN (Below.refl _ _) _)).mono ?_
         rintro e w1 ⟨rfl, hb1⟩
         have x1 := ext_trans (below_drewN (Below.refl _ wj) _) hb1
         have hO1 := hOj.out.below x1
         obtain ⟨gb, cb, eb, _, _, _, _, hfz⟩ := hO1.addr (by rw [HL'.out]; omega)
         rw [HL'.out] at eb
         cases eb
         have hfz' := hfz (L * 3 + 2)
         obtain ⟨u2, hu2⟩ : ∃ u, w1.cell? ⟨gs, L * 3 + 2, none⟩ = some u := ⟨_, ck x1 s2⟩
         have K2 : Kept fpi wj (w1.setCell ⟨gs, L * 3 + 2, none⟩ (I vo)) := (Kept.of_below x1 fpi).setCell hga (I vo)
         have HK2 := hid K2
         clear K2
         go_wp2
         go_roundw
         case rel =>
          refine ⟨j + 1, by omega, by go_num, (ext_trans hbi hij).trans (HK2.out.below (fun b hb => (hOj.out.size_ok b hb).1) (by have := hbi.size; have := Hsz.out; omega)), Nat.le_trans (by have := Hsz.out; omega) HK2.out.size, ⟨HK2.out.ck q0 Hni.out, HK2.out.ck q1 Hni.out, HK2.out.ck q2 Hni.out, HK2.out.ck q3 Hni.out⟩, fpi, ?_, Hni.out⟩
          have := SlO.put (i := L) (j := 2) (a := sl) (a' := { sl with eg := vo }) (u := I vo) hO1 HL'.out.symm (fun _ _ _ _ _ h => h) hsl.out (by show 2 < 3; omega) (fun w cs f hh => step_put2 hh vo)
          rw [Hnx.out, addHop_join hJ.out, HLa.out, HL'.out, ← Hvo.out]
          exact this
         case measure => simp [intOf]; omega
      ·have g2 : ((j : Int) == 0) = false := by simp; omega
       have g2' : (j == 0) = false := by simp; omega
       have hJ : Hid (joinAt k x li j = false) := by show _ = _; simp [joinAt]; omega
       clear hj0 hk0
       go_wp2
       rw [← Hwj.out]
       go_quiet (fail)
       go_wp2
       go_region_held3 (fun w' => (w'.cell? ⟨wo.heap.size, 0, none⟩ = some (I x.kind) ∧ w'.cell? ⟨wo.heap.size, 1, none⟩ = some (I x.ts) ∧ w'.cell? ⟨wo.heap.size, 2, none⟩ = some (I x.beta) ∧ w'.cell? ⟨wo.heap.size, 3, none⟩ = some (.slice (some ⟨g', o', none⟩) m d) ∧ w'.cell? ⟨wi.heap.size, 0, none⟩ = some (I y.ia)))
        (first | exact HS.out _ ((below_drewN (Below.refl _ _) _).drew) | exact HS.out _ x1 | exact HS.out _ x2 | exact HS.out _ (ext_alloc x2 _) | exact z3 | go_keep)
        (first | (go_at_call 81; refine (HI.out _ ((below_drewN (Below.refl _ _) _).drew)).mono ?_; rintro e w1 ⟨rfl, hb1⟩; have x1 := ext_trans ((below_drewN (Below.refl _ wj) _).drew) hb1) | (go_at_call 80; refine (HE.out _ x1).mono ?_; rintro e w2 ⟨rfl, hb2⟩; have x2 := ext_trans x1 hb2) | (refine step_cat step_flat (.tmp 55) (.tmp 65) et_step ((hOj.out.below x2).alloc _) (lit_one w2 78 (⟨y.ia, vi, vo⟩ : Stp) 1 w2.heap.size (Nat.le_refl _) rfl #[I y.ia, I vi, I vo] (fun _ => rfl)) (by simp; omega) (by simp [maxLen]; omega) (by have := x2.size; have := hbi.size; have := Hsz.out; simp; omega) (by rfl) (by rfl) (by rfl) (by rfl) ?_; intro v3 w3 fp3 hO3 hfp3 hkp3; have z2 := HS.out _ (ext_alloc x2 (.cells #[I y.ia, I vi, I vo] 78)); have z3 := And.intro (hkp3.ck z2.1 Hni.out) (And.intro (hkp3.ck z2.2.1 Hni.out) (And.intro (hkp3.ck z2.2.2.1 Hni.out) (And.intro (hkp3.ck z2.2.2.2.1 Hni.out) (hkp3.ck z2.2.2.2.2 Hni2.out))))))
       have y3 : Below w.heap.size w w3 := (ext_trans hbi (ext_trans hij (ext_alloc x2 _))).trans (hkp3.below (fun b hb => (hOj.out.size_ok b hb).1) (by have := x2.size; have := hbi.size; have := Hsz.out; simp; omega))
       have z4 : wo.heap.size + 1 ≤ w3.heap.size := by have := hkp3.size; have := x2.size; have := Hsz.out; simp at *; omega
       go_wp2
       go_roundw
       case rel =>
        refine ⟨j + 1, by omega, by go_num, y3, z4, ⟨z3.1, z3.2.1, z3.2.2.1, z3.2.2.2.1⟩, fp3, by rw [Hnx.out, addHop_new hJ.out, hopIa_at hyj.out, ← Hvi.out, ← Hvo.out]; exact hO3, fun hm => ?_⟩
        rcases hfp3 _ hm with hm | hm
        ·exact Hni.out hm
        ·have := x2.size; have := Hsz.out; simp at hm; omega
       case measure => simp [intOf]; omega
    ·have hjm : j = m := by omega
     subst hjm
     go_wp2
     go_roundw
     case rel => exact ⟨k + 1, by omega, by go_num, hbi, fpi, by rw [hsuc.out]; exact hOi⟩
     case measure => simp [intOf]; omega
  ·have hkn : k = n := by omega
   subst hkn
   rw [H.out] at hO
   obtain ⟨l, Hl⟩ : ∃ l, Hid (l = rawSteps p p.length) := ⟨_, rfl⟩
   have Hps : Hid (pathSteps p = cutLast (cutFirst l)) := by show _ = _; rw [Hl.out]; rfl
   have hlen : l.length ≤ 1048576 := by rw [Hl.out]; exact Nat.le_trans (rawSteps_bound _ _) Hz.out
   rw [← Hl.out] at hO
   obtain ⟨Av, cv, ev, _⟩ := hO.form
   subst ev
   rcases Nat.eq_zero_or_pos l.length with hl0 | hl0
   ·have hlz : l = [] := List.length_eq_zero_iff.1 hl0
    subst hlz
    go_wp2
    go_ret
    exact ⟨_, fp, rfl, by rw [Hps.out]; exact hO, hb⟩
   ·obtain ⟨L, HL⟩ : ∃ L, l.length = L + 1 := ⟨l.length - 1, by omega⟩
    have hL2 : L ≤ 1048576 := by omega
    obtain ⟨g, ca, ea, hga, hgb, hgc, hgd, hgf⟩ := hO.addr (by omega)
    cases ea
    have f1 := hgf 1
    obtain ⟨g1, o1, q1, sf, e1, _, hsf, r0, r1, r2⟩ := step_at (k := 0) hO.read (by omega)
    cases e1
    simp only [Nat.zero_mul, Nat.zero_add, Nat.add_zero] at r0 r1 r2
    have hO1 := SlO.put (i := 0) (j := 1) (a := sf) (a' := { sf with ing := 0 }) (u := I 0) hO rfl (fun _ _ _ _ _ h => h) hsf.out (by show 1 < 3; omega) (fun w cs f hh => step_put1 hh 0)
    have e2 : l.set 0 { sf with ing := 0 } = cutFirst l := by unfold cutFirst; rw [firstOf_at hsf.out]
    rw [e2] at hO1
    have hcl : (cutFirst l).length = l.length := by unfold cutFirst; simp
    obtain ⟨g2, o2, q2, sg, e2', _, hsg, t0, t1, t2⟩ := step_at (k := L) hO1.read (by omega)
    rw [hcl] at e2'
    cases e2'
    have hO2 := SlO.put (i := L) (j := 2) (a := sg) (a' := { sg with eg := 0 }) (u := I 0) hO1 hcl.symm (fun _ _ _ _ _ h => h) hsg.out (by show 2 < 3; omega) (fun w cs f hh => step_put2 hh 0)
    have e3 : (cutFirst l).set L { sg with eg := 0 } = cutLast (cutFirst l) := by
     have hh : (cutFirst l).length - 1 = L := by omega
     unfold cutLast
     rw [lastOf_at (by rw [hh]; exact hsg.out), hh]
    rw [e3, ← Hps.out] at hO2
    obtain ⟨g3, c3, e4, _, _, _, _, hf3⟩ := hO1.addr (by omega)
    rw [hcl] at e4
    cases e4
    have f2 := hf3 (L * 3 + 2)
    have HL' := hid HL
    rw [HL] at hO hO1 hO2 ⊢
    have HO2 := hid hO2
    have hb2 := hid ((hb.setCell (p := ⟨g, 0 * stepT.size + 1, none⟩) hgb (I 0)).setCell (p := ⟨g, L * stepT.size + 2, none⟩) hgb (I 0))
    clear hl0 HL hO2 hO1 hO e2 e3 hcl
    simp only [show stepT.size = 3 from rfl, Nat.zero_mul, Nat.zero_add] at t0 t1 t2 f2 HO2 hb2
    go_wp2
    go_ret
    exact ⟨_, fp, rfl, HO2.out, hb2.out⟩
end Go.Proofs.YtdaecknfahgddaaGreat
