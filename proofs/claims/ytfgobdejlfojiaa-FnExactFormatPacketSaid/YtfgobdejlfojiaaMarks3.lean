/- The laws' mark and held functions over packets and lists of paths. -/
import Derived.Test.YtfgobdejlfojiaaMarks2
import Derived.Test.YtfgobdejlfojiaaSepN
import Derived.Test.YtfgobdejlfojiaaRunB
import Derived.Test.YtfgobdejlfojiaaOkz
namespace Go.Proofs.Ytfgobdejlfojiaa
open Go.RowKit
set_option linter.unusedVariables false
set_option maxRecDepth 20000

def cnt_pkt (x : Pkt) : Int := cnt_parts x.path + 1 * (x.pay.length : Int)
theorem mark_pkt (b : Nat) (os : List Ow) (x : Pkt) (v u : Value) (k : Int) (w : World) (S : Sep b w (slO partT 90 v x.path :: slO byteT 5 u x.pay :: os)) (hz : sz_pkt x ≤ 1099511627776) (hk : 0 ≤ k ∧ k ≤ 288230376151711744) :
    Calls Try.prog 32 #[.agg #[I x.kind, I x.src, I x.dst, v, I x.pidx, I x.hidx, I x.beta, I x.rid, I x.seq, u], I k] w fun e w' => e = .returned (I (k + cnt_pkt x)) ∧ Sep b w' (slO partT 90 v (mk_parts k x.path) :: slO byteT 5 u (gen_byte (k + cnt_parts x.path) x.pay.length) :: os) ∧ Below b w w' := by
  have hz1 : sz_path x.path ≤ 1099511627776 := by unfold sz_pkt at hz; omega
  have hz2 : x.pay.length ≤ 1099511627776 := by unfold sz_pkt at hz; omega
  have hcb : 0 ≤ cnt_parts x.path ∧ cnt_parts x.path ≤ 5 * (sz_path x.path : Int) := cnt_parts_bd x.path
  obtain ⟨A, c, rfl, _⟩ := S.sl.form
  obtain ⟨A2, c2, rfl, _⟩ := S.tail.sl.form
  have X0 := Below.refl w.heap.size w
  refine enter Try.func32 rfl Try.ntmps32 rfl ?_
  have B := Below.refl b w
  have Hb := S.base
  refine w_seq ?_
  refine w_region ?_
  refine t_boxo S rfl rfl ?_ rfl rfl
  intro g2 w1 x2 S
  have B := bx Hb B x2
  refine t_assign rfl ?_ rfl
  refine t_done ?_
  refine x_seq ?_
  refine w_seq ?_
  refine w_region ?_
  refine t_fldx fb_pkt_3 rfl rfl ?_ rfl
  refine t_bxp S.box ab_path sb_path rfl rfl ?_ rfl
  refine t_move rfl ?_ rfl
  have S := S.f1
  refine t_callf Try.call39 rfl (mark_path _ _ _ _ _ _ S (by omega) (by omega)) ?_ rfl
  rintro e w3 ⟨rfl, S, x4⟩
  refine ⟨_, rfl, ?_⟩
  have B := B.trans x4
  refine t_assign rfl ?_ rfl
  refine t_done ?_
  refine x_seq ?_
  refine w_seq ?_
  refine w_region ?_
  refine t_fldx fb_pkt_9 rfl rfl ?_ rfl
  refine t_bx1 S.tail.box ab_s_byte rfl rfl ?_ rfl
  refine t_move rfl ?_ rfl
  have S := S.f2
  refine t_callf Try.call38 rfl (mark_byte _ _ _ _ _ _ S (by omega) (by omega)) ?_ rfl
  rintro e w5 ⟨rfl, S, x6⟩
  refine ⟨_, rfl, ?_⟩
  have B := B.trans x6
  refine t_assign rfl ?_ rfl
  refine t_done ?_
  refine x_seq ?_
  refine w_seq ?_
  refine w_region ?_
  refine t_move rfl ?_ rfl
  refine t_assign rfl ?_ rfl
  refine t_done ?_
  refine x_seq ?_
  refine w_ret ?_
  refine x_ret1 rfl rfl ?_
  exact ⟨ret_int (by unfold cnt_pkt; omega), S.f2.tail.f1, B⟩
theorem held_pkt (x : Pkt) (a0 a1 a2 a4 a5 a6 a7 a8 : Int) (v u : Value) (k : Int) (w : World) (h1 : SlR partT w v (mk_parts k x.path)) (h2 : SlR byteT w u (gen_byte (k + cnt_parts x.path) x.pay.length)) (hz : sz_pkt x ≤ 1099511627776) (hk : 0 ≤ k ∧ k ≤ 288230376151711744) :
    Calls Try.prog 33 #[.agg #[I a0, I a1, I a2, v, I a4, I a5, I a6, I a7, I a8, u], I k] w fun e w' => e = .returned (I (k + cnt_pkt x)) ∧ Below w.heap.size w w' := by
  have hz1 : sz_path x.path ≤ 1099511627776 := by unfold sz_pkt at hz; omega
  have hz2 : x.pay.length ≤ 1099511627776 := by unfold sz_pkt at hz; omega
  have hcb : 0 ≤ cnt_parts x.path ∧ cnt_parts x.path ≤ 5 * (sz_path x.path : Int) := cnt_parts_bd x.path
  have X0 := Below.refl w.heap.size w
  refine enter Try.func33 rfl Try.ntmps33 rfl ?_
  refine w_seq ?_
  refine w_region ?_
  have S := Sep.nil w
  have B := Below.refl w.heap.size w
  have Hb := Nat.le_refl w.heap.size
  refine t_boxo S rfl rfl ?_ rfl rfl
  intro g2 w7 x8 S
  have B := bx Hb B x8
  refine t_assign rfl ?_ rfl
  refine t_done ?_
  refine x_seq ?_
  refine w_seq ?_
  refine w_region ?_
  refine t_fldx fb_pkt_3 rfl rfl ?_ rfl
  refine t_bxp S.box ab_path sb_path rfl rfl ?_ rfl
  refine t_move rfl ?_ rfl
  refine t_callx Try.call40 rfl (held_path _ _ _ _ (by first | exact h1 | exact SlR.below h1 B) (by omega) (by omega)) ?_ rfl rfl
  intro w9 x10
  have B := bx Hb B x10
  have S := S.below x10
  refine t_assign rfl ?_ rfl
  refine t_done ?_
  refine x_seq ?_
  refine w_seq ?_
  refine w_seq ?_
  refine w_region ?_
  refine t_move rfl ?_ rfl
  refine t_lss rfl rfl ?_ rfl
  refine t_done ?_
  refine x_seq ?_
  refine w_if rfl (fun h => (by exfalso; omega)) ?_
  intro hc10
  refine w_skip ?_
  refine x_seq ?_
  refine w_seq ?_
  refine w_region ?_
  refine t_fldx fb_pkt_9 rfl rfl ?_ rfl
  refine t_bx1 S.box ab_s_byte rfl rfl ?_ rfl
  refine t_move rfl ?_ rfl
  refine t_callx Try.call45 rfl (held_byte _ _ _ _ (by first | exact h2 | exact SlR.below h2 B) (by omega) (by omega)) ?_ rfl rfl
  intro w11 x12
  have B := bx Hb B x12
  have S := S.below x12
  refine t_assign rfl ?_ rfl
  refine t_done ?_
  refine x_seq ?_
  refine w_seq ?_
  refine w_seq ?_
  refine w_region ?_
  refine t_move rfl ?_ rfl
  refine t_lss rfl rfl ?_ rfl
  refine t_done ?_
  refine x_seq ?_
  refine w_if rfl (fun h => (by exfalso; omega)) ?_
  intro hc16
  refine w_skip ?_
  refine x_seq ?_
  refine w_seq ?_
  refine w_region ?_
  refine t_move rfl ?_ rfl
  refine t_assign rfl ?_ rfl
  refine t_done ?_
  refine x_seq ?_
  refine w_ret ?_
  refine x_ret1 rfl rfl ?_
  exact ⟨ret_int (by unfold cnt_pkt; omega), ext_trans X0 B⟩

/-! ### Lists of paths -/

def cnt_paths (l : List Path) : Int := (l.map cnt_parts).sum
def mk_paths : Int → List Path → List Path
  | _, [] => []
  | k, p :: t => mk_parts k p :: mk_paths (k + cnt_parts p) t
theorem cnt_paths_snoc (l : List Path) (p : Path) : cnt_paths (l ++ [p]) = cnt_paths l + cnt_parts p := by simp [cnt_paths]
theorem mk_paths_snoc (l : List Path) (p : Path) : ∀ k, mk_paths k (l ++ [p]) = mk_paths k l ++ [mk_parts (k + cnt_paths l) p] := by
  induction l with
  | nil => intro k; simp [mk_paths, cnt_paths]
  | cons a t ih => intro k; simp only [List.cons_append, mk_paths, ih]; simp [cnt_paths, Int.add_assoc]
theorem mk_paths_len (l : List Path) : ∀ k, (mk_paths k l).length = l.length := by
  induction l with
  | nil => intro k; rfl
  | cons a t ih => intro k; simp [mk_paths, ih]
theorem cnt_paths_bd (l : List Path) : 0 ≤ cnt_paths l ∧ cnt_paths l ≤ 5 * (sz_paths l : Int) := by
  induction l with
  | nil => simp [cnt_paths, sz_paths]
  | cons a t ih =>
    have h1 : cnt_paths (a :: t) = cnt_parts a + cnt_paths t := by simp [cnt_paths]
    have h2 : sz_paths (a :: t) = 1 + sz_path a + sz_paths t := by simp [sz_paths]; omega
    have h3 : 0 ≤ cnt_parts a ∧ cnt_parts a ≤ 5 * (sz_path a : Int) := cnt_parts_bd a
    rw [h1, h2]
    omega
theorem cnt_paths_take (l : List Path) (i : Nat) {x : Path} (hx : l[i]? = some x) : cnt_paths (l.take i) + cnt_parts x ≤ cnt_paths l ∧ 0 ≤ cnt_paths (l.take i) := by
  have h1 : l = (l.take i ++ [x]) ++ l.drop (i + 1) := by rw [← take_succ hx, List.take_append_drop]
  have h2 : cnt_paths l = cnt_paths (l.take i) + cnt_parts x + cnt_paths (l.drop (i + 1)) := by
    have h3 : ∀ a b : List Path, cnt_paths (a ++ b) = cnt_paths a + cnt_paths b := fun a b => by simp [cnt_paths]
    have h4 : cnt_paths l = cnt_paths ((l.take i ++ [x]) ++ l.drop (i + 1)) := congrArg _ h1
    rw [h4, h3, cnt_paths_snoc]
  have := (cnt_paths_bd (l.drop (i + 1))).1
  have := (cnt_paths_bd (l.take i)).1
  omega
theorem mk_paths_at (l : List Path) : ∀ (k : Int) (i : Nat) x, l[i]? = some x → (mk_paths k l)[i]? = some (mk_parts (k + cnt_paths (l.take i)) x) := by
  induction l with
  | nil => intro k i x h; simp at h
  | cons a t ih =>
    intro k i x h
    cases i with
    | zero => simp at h; subst h; simp [mk_paths, cnt_paths]
    | succ i =>
      simp at h
      simp only [mk_paths, List.getElem?_cons_succ, ih _ i x h]
      simp [cnt_paths, Int.add_assoc]
theorem sz_paths_mem {l : List Path} {x : Path} (h : x ∈ l) : l.length + sz_path x ≤ sz_paths l := by
  have := le_sum_of_mem (List.mem_map.2 ⟨x, h, rfl⟩ : sz_path x ∈ l.map sz_path)
  unfold sz_paths
  omega
theorem mark_pathl (b : Nat) (os : List Ow) (l : List Path) (v : Value) (k : Int) (w : World) (S : Sep b w (slO pathT 39 v l :: os)) (hz : sz_paths l ≤ 1099511627776) (hk : 0 ≤ k ∧ k ≤ 288230376151711744) :
    Calls Try.prog 53 #[v, I k] w fun e w' => e = .returned (I (k + cnt_paths l)) ∧ Sep b w' (slO pathT 39 v (mk_paths k l) :: os) ∧ Below b w w' := by
  have hn : l.length ≤ 1099511627776 := by unfold sz_paths at hz; omega
  have hcb := cnt_paths_bd l
  have X0 := Below.refl w.heap.size w
  refine enter Try.func53 rfl Try.ntmps53 rfl ?_
  have B := Below.refl b w
  have Hb := S.base
  rcases Nat.eq_zero_or_pos l.length with h0 | h0
  · obtain rfl : l = [] := List.eq_nil_of_length_eq_zero h0
    refine w_seq ?_
    refine w_region ?_
    refine t_assign rfl ?_ rfl
    refine t_done ?_
    refine x_seq ?_
    refine w_seq ?_
    refine w_seq ?_
    refine w_region ?_
    refine t_assign rfl ?_ rfl
    refine t_done ?_
    refine x_seq ?_
    refine w_block ?_
    refine w_loop (X := Nat) (fun i wq => i = 0 ∧ Below b w wq ∧ Sep b wq (slO pathT 39 v [] :: os)) (fun i => [(5, I ((i : Int))), (1, I k), (0, v), (4, I 0)]) (fun i => 0) (0) ?_ ⟨rfl, rfl, rfl, rfl, trivial⟩ ?_
    · exact ⟨rfl, B, S⟩
    · rintro i w13 hI
      try dsimp only at hI ⊢
      obtain ⟨rfl, B, S⟩ := hI
      refine w_seq ?_
      refine w_seq ?_
      refine w_region ?_
      refine t_move rfl ?_ rfl
      refine t_move rfl ?_ rfl
      refine t_len e_path (S.sl) rfl rfl ?_ rfl
      refine t_lss rfl rfl ?_ rfl
      refine t_done ?_
      refine x_seq ?_
      refine w_if rfl ?_ ?_
      · intro hlt
        simp at hlt
      · intro _
        refine w_exit ?_
        refine x_then_exit ?_
        refine x_then_exit ?_
        refine x_block_exit ?_
        refine x_seq ?_
        refine w_seq ?_
        refine w_region ?_
        refine t_move rfl ?_ rfl
        refine t_assign rfl ?_ rfl
        refine t_done ?_
        refine x_seq ?_
        refine w_ret ?_
        refine x_ret1 rfl rfl ?_
        exact ⟨by simp [cnt_paths], S, B⟩
  · obtain ⟨Gv, Cv, rfl⟩ := S.addr (by omega)
    refine w_seq ?_
    refine w_region ?_
    refine t_assign rfl ?_ rfl
    refine t_done ?_
    refine x_seq ?_
    refine w_seq ?_
    refine w_seq ?_
    refine w_region ?_
    refine t_assign rfl ?_ rfl
    refine t_done ?_
    refine x_seq ?_
    refine w_block ?_
    refine w_loop (X := Nat × Int) (fun x wq => (fun i q => i ≤ l.length ∧ q = k + cnt_paths (l.take i) ∧ Below b w wq ∧ Sep b wq (slO pathT 39 (.slice (some ⟨Gv, 0, none⟩) l.length Cv) (mk_paths k (l.take i) ++ l.drop i) :: os)) x.1 x.2) (fun x => (fun i q => [(5, I ((i : Int))), (1, I q), (0, (.slice (some ⟨Gv, 0, none⟩) l.length Cv)), (4, I 0)]) x.1 x.2) (fun x => (fun i q => l.length - i) x.1 x.2) (0, k) ?_ ⟨rfl, rfl, rfl, rfl, trivial⟩ ?_
    · exact ⟨by omega, by simp [cnt_paths], B, by simpa [mk_paths] using S⟩
    · rintro ⟨i, q⟩ w14 hI
      try dsimp only at hI ⊢
      obtain ⟨hi, hq, B, S⟩ := hI
      refine w_seq ?_
      refine w_seq ?_
      refine w_region ?_
      refine t_move rfl ?_ rfl
      refine t_move rfl ?_ rfl
      refine t_lenx e_path rfl rfl ?_ rfl
      refine t_lss rfl rfl ?_ rfl
      refine t_done ?_
      refine x_seq ?_
      refine w_if rfl ?_ ?_
      · intro hlt
        obtain ⟨x, hx⟩ : ∃ x, l[i]? = some x := getx (by omega)
        have hml : (mk_paths k (l.take i)).length = i := by rw [mk_paths_len, List.length_take]; omega
        have hx0 := mid_at hml hx
        have hl1 : (mk_paths k (l.take i) ++ l.drop i).length = l.length := by rw [List.length_append, hml, List.length_drop]; omega
        have hct := cnt_paths_take l i hx
        have hcx : 0 ≤ cnt_parts x ∧ cnt_parts x ≤ 5 * (sz_path x : Int) := cnt_parts_bd x
        have hzx := sz_paths_mem (List.mem_of_getElem? hx)
        have hzz : sz_parts x ≤ 1099511627776 := by show sz_path x ≤ _; omega
        refine w_skip ?_
        refine x_seq ?_
        refine w_seq ?_
        refine w_block ?_
        refine w_region ?_
        refine t_move rfl ?_ rfl
        refine t_move rfl ?_ rfl
        refine t_idxx e_path (k := i) rfl rfl (by first | rfl | omega) (by omega) rfl ?_ rfl
        refine t_fldx fb_path_0 rfl rfl ?_ rfl
        obtain ⟨cs16, S, hc16⟩ := S.split hx0
        obtain ⟨u16, rfl, S⟩ := S.pathOpen
        refine t_ld1 ab_s_part (hc16 _ _ _ rfl 0 _ rfl) (Below.refl _ _) rfl ?_ rfl
        refine t_move rfl ?_ rfl
        refine t_callf Try.call99 rfl (mark_part _ _ _ _ _ _ S (by first | assumption | omega) (by omega)) ?_ rfl
        rintro e w15 ⟨rfl, S, x16⟩
        refine ⟨_, rfl, ?_⟩
        have B := B.trans x16
        refine t_assign rfl ?_ rfl
        refine t_done ?_
        refine x_block_normal ?_
        refine x_seq ?_
        refine w_region ?_
        refine t_move rfl ?_ rfl
        refine t_add rfl rfl (by omega) ?_ rfl
        refine t_assign rfl ?_ rfl
        refine t_done ?_
        have S := S.pathShut (x := (mk_parts q x))
        have S := S.join
        refine x_round (I := (fun x wq => (fun i q => i ≤ l.length ∧ q = k + cnt_paths (l.take i) ∧ Below b w wq ∧ Sep b wq (slO pathT 39 (.slice (some ⟨Gv, 0, none⟩) l.length Cv) (mk_paths k (l.take i) ++ l.drop i) :: os)) x.1 x.2)) (F := (fun x => (fun i q => [(5, I ((i : Int))), (1, I q), (0, (.slice (some ⟨Gv, 0, none⟩) l.length Cv)), (4, I 0)]) x.1 x.2)) (μ := (fun x => (fun i q => l.length - i) x.1 x.2)) (i + 1, q + cnt_parts x) ?_ (by exact ⟨rfl, rfl, rfl, rfl, trivial⟩) (by (try dsimp only); omega)
        try dsimp only
        have hm := mid_set (y := mk_parts q x) hml hx
        rw [take_succ hx, cnt_paths_snoc, mk_paths_snoc, ← hq, ← hm]
        exact ⟨by omega, by omega, B, S⟩
      · intro hge
        refine w_exit ?_
        refine x_then_exit ?_
        refine x_then_exit ?_
        refine x_block_exit ?_
        refine x_seq ?_
        refine w_seq ?_
        refine w_region ?_
        refine t_move rfl ?_ rfl
        refine t_assign rfl ?_ rfl
        refine t_done ?_
        refine x_seq ?_
        refine w_ret ?_
        refine x_ret1 rfl rfl ?_
        have : i = l.length := by omega
        subst this
        rw [List.take_length] at hq S
        refine ⟨ret_int hq, ?_, B⟩
        simpa using S
theorem held_pathl (l : List Path) (v : Value) (k : Int) (w : World) (h : SlR pathT w v (mk_paths k l)) (hz : sz_paths l ≤ 1099511627776) (hk : 0 ≤ k ∧ k ≤ 288230376151711744) :
    Calls Try.prog 54 #[v, I k] w fun e w' => e = .returned (I (k + cnt_paths l)) ∧ Below w.heap.size w w' := by
  have hn : l.length ≤ 1099511627776 := by unfold sz_paths at hz; omega
  have hcb := cnt_paths_bd l
  have hlen := mk_paths_len l k
  obtain ⟨L, HL⟩ : ∃ L, L = mk_paths k l := ⟨_, rfl⟩
  rw [← HL] at h hlen
  have X0 := Below.refl w.heap.size w
  refine enter Try.func54 rfl Try.ntmps54 rfl ?_
  refine w_seq ?_
  refine w_region ?_
  have S := Sep.nil w
  have B := Below.refl w.heap.size w
  have Hb := Nat.le_refl w.heap.size
  refine t_assign rfl ?_ rfl
  refine t_done ?_
  refine x_seq ?_
  refine w_seq ?_
  refine w_seq ?_
  refine w_region ?_
  refine t_assign rfl ?_ rfl
  refine t_done ?_
  refine x_seq ?_
  refine w_block ?_
  refine w_loop (X := Nat × Int) (fun x wq => (fun i q => i ≤ l.length ∧ q = k + cnt_paths (l.take i) ∧ Below w.heap.size w wq ∧ Sep w.heap.size wq []) x.1 x.2) (fun x => (fun i q => [(5, I ((i : Int))), (1, I q), (0, v)]) x.1 x.2) (fun x => (fun i q => l.length - i) x.1 x.2) (0, k) ?_ ⟨rfl, rfl, rfl, trivial⟩ ?_
  · exact ⟨by omega, by simp [cnt_paths], B, S⟩
  · rintro ⟨i, q⟩ w17 hI
    try dsimp only at hI ⊢
    obtain ⟨hi, hq, B, S⟩ := hI
    refine w_seq ?_
    refine w_seq ?_
    refine w_region ?_
    refine t_move rfl ?_ rfl
    refine t_move rfl ?_ rfl
    refine t_len e_path (by assumption) rfl rfl ?_ rfl
    refine t_lss rfl rfl ?_ rfl
    refine t_done ?_
    refine x_seq ?_
    refine w_if rfl ?_ ?_
    · intro hlt
      obtain ⟨x, hx⟩ : ∃ x, l[i]? = some x := getx (by omega)
      have hat := mk_paths_at l k i x hx
      rw [← HL, ← hq] at hat
      have hct := cnt_paths_take l i hx
      have hcx : 0 ≤ cnt_parts x ∧ cnt_parts x ≤ 5 * (sz_path x : Int) := cnt_parts_bd x
      have hzx := sz_paths_mem (List.mem_of_getElem? hx)
      have hzz : sz_parts x ≤ 1099511627776 := by show sz_path x ≤ _; omega
      refine w_skip ?_
      refine x_seq ?_
      refine w_seq ?_
      refine w_block ?_
      refine w_seq ?_
      refine w_region ?_
      refine t_move rfl ?_ rfl
      refine t_move rfl ?_ rfl
      refine t_idx e_path (k := i) (by assumption) hat B rfl rfl (by first | rfl | omega) ?_ rfl
      intro p14 hp14
      refine t_fld ln_path_0 (by assumption) fb_path_0 rfl ?_ rfl
      intro p15 hp15
      refine t_lds (by assumption) ab_s_part B rfl ?_ rfl
      intro v16 hv16
      refine t_move rfl ?_ rfl
      refine t_callx Try.call100 rfl (held_part x _ _ _ (by first | assumption | exact SlR.below (by assumption) B) hzz (by omega)) ?_ rfl rfl
      intro w18 x19
      have B := bx Hb B x19
      have S := S.below x19
      refine t_assign rfl ?_ rfl
      refine t_done ?_
      refine x_seq ?_
      refine w_seq ?_
      refine w_region ?_
      refine t_move rfl ?_ rfl
      refine t_lss rfl rfl ?_ rfl
      refine t_done ?_
      refine x_seq ?_
      refine w_if rfl (fun h => (by exfalso; omega)) ?_
      intro hc20
      refine w_skip ?_
      refine x_block_normal ?_
      refine x_seq ?_
      refine w_region ?_
      refine t_move rfl ?_ rfl
      refine t_add rfl rfl (by omega) ?_ rfl
      refine t_assign rfl ?_ rfl
      refine t_done ?_
      refine x_round (I := (fun x wq => (fun i q => i ≤ l.length ∧ q = k + cnt_paths (l.take i) ∧ Below w.heap.size w wq ∧ Sep w.heap.size wq []) x.1 x.2)) (F := (fun x => (fun i q => [(5, I ((i : Int))), (1, I q), (0, v)]) x.1 x.2)) (μ := (fun x => (fun i q => l.length - i) x.1 x.2)) (i + 1, q + cnt_parts x) ?_ (by exact ⟨rfl, rfl, rfl, trivial⟩) (by (try dsimp only); omega)
      try dsimp only
      rw [take_succ hx, cnt_paths_snoc, ← Int.add_assoc, ← hq]
      exact ⟨by omega, rfl, B, S⟩
    · intro hge
      refine w_exit ?_
      refine x_then_exit ?_
      refine x_then_exit ?_
      refine x_block_exit ?_
      refine x_seq ?_
      refine w_seq ?_
      refine w_region ?_
      refine t_move rfl ?_ rfl
      refine t_assign rfl ?_ rfl
      refine t_done ?_
      refine x_seq ?_
      refine w_ret ?_
      refine x_ret1 rfl rfl ?_
      have : i = l.length := by omega
      subst this
      rw [List.take_length] at hq
      exact ⟨ret_int hq, ext_trans X0 B⟩

/-! ### Comparing greater things than a law's measure lets in -/

theorem eqv_pkt (x : Pkt) (v u : Value) (w : World) (h : VA pktT w v x) (h' : VA pktT w u x) (hn : sz_pkt x ≤ 1099511627776) :
    Calls Try.prog 31 #[v, u] w fun e w' => e = .returned (.bool true) ∧ Below w.heap.size w w' := by
  have hz1 : sz_path x.path ≤ 1099511627776 := by unfold sz_pkt at hn; omega
  have hz2 : x.pay.length ≤ 1099511627776 := by unfold sz_pkt at hn; omega
  have X0 := Below.refl w.heap.size w
  refine enter Try.func31 rfl Try.ntmps31 rfl ?_
  refine w_seq ?_
  refine w_region ?_
  refine t_boxr (by assumption) rfl ?_ rfl rfl
  intro p2 w20 x21 hp2
  replace h := h.below x21
  replace h' := h'.below x21
  have X0 := ext_trans X0 x21
  refine t_boxr (by assumption) rfl ?_ rfl rfl
  intro p3 w22 x23 hp3
  replace h := h.below x23
  replace h' := h'.below x23
  replace hp2 := hp2.below x23
  have X0 := ext_trans X0 x23
  have S := Sep.nil w22
  have B := Below.refl w22.heap.size w22
  have Hb := Nat.le_refl w22.heap.size
  refine t_assign rfl ?_ rfl
  refine t_done ?_
  refine x_seq ?_
  refine w_seq ?_
  refine w_seq ?_
  refine w_region ?_
  refine t_fld ln_pkt_0 (by assumption) fb_pkt_0 rfl ?_ rfl
  intro p5 hp5
  refine t_ldi (by assumption) ab_int B rfl ?_ rfl
  refine t_fld ln_pkt_0 (by assumption) fb_pkt_0 rfl ?_ rfl
  intro p7 hp7
  refine t_ldi (by assumption) ab_int B rfl ?_ rfl
  refine t_neq rfl rfl ?_ rfl
  refine t_done ?_
  refine x_seq ?_
  refine w_if rfl (fun h => absurd rfl h) ?_
  intro _
  refine w_skip ?_
  refine x_seq ?_
  refine w_seq ?_
  refine w_seq ?_
  refine w_region ?_
  refine t_fld ln_pkt_1 (by assumption) fb_pkt_1 rfl ?_ rfl
  intro p10 hp10
  refine t_ldi (by assumption) ab_int B rfl ?_ rfl
  refine t_fld ln_pkt_1 (by assumption) fb_pkt_1 rfl ?_ rfl
  intro p12 hp12
  refine t_ldi (by assumption) ab_int B rfl ?_ rfl
  refine t_neq rfl rfl ?_ rfl
  refine t_done ?_
  refine x_seq ?_
  refine w_if rfl (fun h => absurd rfl h) ?_
  intro _
  refine w_skip ?_
  refine x_seq ?_
  refine w_seq ?_
  refine w_seq ?_
  refine w_region ?_
  refine t_fld ln_pkt_2 (by assumption) fb_pkt_2 rfl ?_ rfl
  intro p15 hp15
  refine t_ldi (by assumption) ab_int B rfl ?_ rfl
  refine t_fld ln_pkt_2 (by assumption) fb_pkt_2 rfl ?_ rfl
  intro p17 hp17
  refine t_ldi (by assumption) ab_int B rfl ?_ rfl
  refine t_neq rfl rfl ?_ rfl
  refine t_done ?_
  refine x_seq ?_
  refine w_if rfl (fun h => absurd rfl h) ?_
  intro _
  refine w_skip ?_
  refine x_seq ?_
  refine w_seq ?_
  refine w_seq ?_
  refine w_region ?_
  refine t_fld ln_pkt_3 (by assumption) fb_pkt_3 rfl ?_ rfl
  intro p20 hp20
  refine t_lda (by assumption) ab_path sb_path B rfl ?_ rfl
  intro v21 hv21
  obtain ⟨v21_0, rfl, hv21_0⟩ := path_va hv21
  refine t_fld ln_pkt_3 (by assumption) fb_pkt_3 rfl ?_ rfl
  intro p22 hp22
  refine t_lda (by assumption) ab_path sb_path B rfl ?_ rfl
  intro v23 hv23
  obtain ⟨v23_0, rfl, hv23_0⟩ := path_va hv23
  refine t_callx Try.call22 rfl (eqv_path _ _ _ _ (by first | assumption | exact VA.below (by assumption) B | exact path_mkv (by first | assumption | exact SlR.below (by assumption) B)) (by first | assumption | exact VA.below (by assumption) B | exact path_mkv (by first | assumption | exact SlR.below (by assumption) B)) (ok_path_big (by omega))) ?_ rfl rfl
  intro w24 x25
  have B := bx Hb B x25
  have S := S.below x25
  refine t_notb rfl ?_ rfl
  refine t_done ?_
  refine x_seq ?_
  refine w_no rfl ?_
  refine w_skip ?_
  refine x_seq ?_
  refine w_seq ?_
  refine w_seq ?_
  refine w_region ?_
  refine t_fld ln_pkt_4 (by assumption) fb_pkt_4 rfl ?_ rfl
  intro p26 hp26
  refine t_ldi (by assumption) ab_int B rfl ?_ rfl
  refine t_fld ln_pkt_4 (by assumption) fb_pkt_4 rfl ?_ rfl
  intro p28 hp28
  refine t_ldi (by assumption) ab_int B rfl ?_ rfl
  refine t_neq rfl rfl ?_ rfl
  refine t_done ?_
  refine x_seq ?_
  refine w_if rfl (fun h => absurd rfl h) ?_
  intro _
  refine w_skip ?_
  refine x_seq ?_
  refine w_seq ?_
  refine w_seq ?_
  refine w_region ?_
  refine t_fld ln_pkt_5 (by assumption) fb_pkt_5 rfl ?_ rfl
  intro p31 hp31
  refine t_ldi (by assumption) ab_int B rfl ?_ rfl
  refine t_fld ln_pkt_5 (by assumption) fb_pkt_5 rfl ?_ rfl
  intro p33 hp33
  refine t_ldi (by assumption) ab_int B rfl ?_ rfl
  refine t_neq rfl rfl ?_ rfl
  refine t_done ?_
  refine x_seq ?_
  refine w_if rfl (fun h => absurd rfl h) ?_
  intro _
  refine w_skip ?_
  refine x_seq ?_
  refine w_seq ?_
  refine w_seq ?_
  refine w_region ?_
  refine t_fld ln_pkt_6 (by assumption) fb_pkt_6 rfl ?_ rfl
  intro p36 hp36
  refine t_ldi (by assumption) ab_int B rfl ?_ rfl
  refine t_fld ln_pkt_6 (by assumption) fb_pkt_6 rfl ?_ rfl
  intro p38 hp38
  refine t_ldi (by assumption) ab_int B rfl ?_ rfl
  refine t_neq rfl rfl ?_ rfl
  refine t_done ?_
  refine x_seq ?_
  refine w_if rfl (fun h => absurd rfl h) ?_
  intro _
  refine w_skip ?_
  refine x_seq ?_
  refine w_seq ?_
  refine w_seq ?_
  refine w_region ?_
  refine t_fld ln_pkt_7 (by assumption) fb_pkt_7 rfl ?_ rfl
  intro p41 hp41
  refine t_ldi (by assumption) ab_int B rfl ?_ rfl
  refine t_fld ln_pkt_7 (by assumption) fb_pkt_7 rfl ?_ rfl
  intro p43 hp43
  refine t_ldi (by assumption) ab_int B rfl ?_ rfl
  refine t_neq rfl rfl ?_ rfl
  refine t_done ?_
  refine x_seq ?_
  refine w_if rfl (fun h => absurd rfl h) ?_
  intro _
  refine w_skip ?_
  refine x_seq ?_
  refine w_seq ?_
  refine w_seq ?_
  refine w_region ?_
  refine t_fld ln_pkt_8 (by assumption) fb_pkt_8 rfl ?_ rfl
  intro p46 hp46
  refine t_ldi (by assumption) ab_int B rfl ?_ rfl
  refine t_fld ln_pkt_8 (by assumption) fb_pkt_8 rfl ?_ rfl
  intro p48 hp48
  refine t_ldi (by assumption) ab_int B rfl ?_ rfl
  refine t_neq rfl rfl ?_ rfl
  refine t_done ?_
  refine x_seq ?_
  refine w_if rfl (fun h => absurd rfl h) ?_
  intro _
  refine w_skip ?_
  refine x_seq ?_
  refine w_seq ?_
  refine w_seq ?_
  refine w_region ?_
  refine t_fld ln_pkt_9 (by assumption) fb_pkt_9 rfl ?_ rfl
  intro p51 hp51
  refine t_lds (by assumption) ab_s_byte B rfl ?_ rfl
  intro v52 hv52
  refine t_fld ln_pkt_9 (by assumption) fb_pkt_9 rfl ?_ rfl
  intro p53 hp53
  refine t_lds (by assumption) ab_s_byte B rfl ?_ rfl
  intro v54 hv54
  refine t_callx Try.call37 rfl (eqv_bytes _ _ _ _ (by first | assumption | exact SlR.below (by assumption) B) (by first | assumption | exact SlR.below (by assumption) B) (by omega)) ?_ rfl rfl
  intro w26 x27
  have B := bx Hb B x27
  have S := S.below x27
  refine t_notb rfl ?_ rfl
  refine t_done ?_
  refine x_seq ?_
  refine w_no rfl ?_
  refine w_skip ?_
  refine x_seq ?_
  refine w_seq ?_
  refine w_region ?_
  refine t_assign rfl ?_ rfl
  refine t_done ?_
  refine x_seq ?_
  refine w_ret ?_
  refine x_ret1 rfl rfl ?_
  exact ⟨rfl, ext_trans X0 B⟩
theorem eqv_pathl (l : List Path) (v u : Value) (w : World) (h : SlR pathT w v l) (h' : SlR pathT w u l) (hn : sz_paths l ≤ 1099511627776) :
    Calls Try.prog 52 #[v, u] w fun e w' => e = .returned (.bool true) ∧ Below w.heap.size w w' := by
  have hl : l.length ≤ 1099511627776 := by unfold sz_paths at hn; omega
  have X0 := Below.refl w.heap.size w
  refine enter Try.func52 rfl Try.ntmps52 rfl ?_
  refine w_seq ?_
  refine w_region ?_
  have S := Sep.nil w
  have B := Below.refl w.heap.size w
  have Hb := Nat.le_refl w.heap.size
  refine t_assign rfl ?_ rfl
  refine t_done ?_
  refine x_seq ?_
  refine w_seq ?_
  refine w_seq ?_
  refine w_region ?_
  refine t_move rfl ?_ rfl
  refine t_len e_path (by assumption) rfl rfl ?_ rfl
  refine t_move rfl ?_ rfl
  refine t_len e_path (by assumption) rfl rfl ?_ rfl
  refine t_neq rfl rfl ?_ rfl
  refine t_done ?_
  refine x_seq ?_
  refine w_if rfl (fun h => absurd rfl h) ?_
  intro _
  refine w_skip ?_
  refine x_seq ?_
  refine w_seq ?_
  refine w_seq ?_
  refine w_region ?_
  refine t_assign rfl ?_ rfl
  refine t_done ?_
  refine x_seq ?_
  refine w_block ?_
  refine w_loop (X := Nat) (fun i wq => i ≤ l.length ∧ Below w.heap.size w wq ∧ Sep w.heap.size wq []) (fun i => [(5, I ((i : Int))), (0, v), (1, u)]) (fun i => l.length - i) (0) ?_ ⟨rfl, rfl, rfl, trivial⟩ ?_
  · exact ⟨by omega, B, S⟩
  · rintro i w28 hI
    try dsimp only at hI ⊢
    obtain ⟨hi, B, S⟩ := hI
    refine w_seq ?_
    refine w_seq ?_
    refine w_region ?_
    refine t_move rfl ?_ rfl
    refine t_move rfl ?_ rfl
    refine t_len e_path (by assumption) rfl rfl ?_ rfl
    refine t_lss rfl rfl ?_ rfl
    refine t_done ?_
    refine x_seq ?_
    refine w_if rfl ?_ ?_
    · intro hlt
      obtain ⟨x, hx⟩ : ∃ x, l[i]? = some x := getx (by omega)
      have hzx := sz_paths_mem (List.mem_of_getElem? hx)
      refine w_skip ?_
      refine x_seq ?_
      refine w_seq ?_
      refine w_block ?_
      refine w_seq ?_
      refine w_draw (.st .take 0 (.st .take 1 (.st .take 2 (.st .take 3 (.st .take 4 (.st .take 5 (.st .take 6 (.st .take 7 (.st .run 8 (.st .take 9 .done)))))))))) mixed (by kernel_rfl) ?_
      intro w29 x30
      have B := bx Hb B x30
      have S := S.below x30
      refine t_move rfl ?_ rfl
      refine t_move rfl ?_ rfl
      refine t_idx e_path (k := i) (by assumption) hx B rfl rfl (by first | rfl | omega) ?_ rfl
      intro p19 hp19
      refine t_lda (by assumption) ab_path sb_path B rfl ?_ rfl
      intro v20 hv20
      obtain ⟨v20_0, rfl, hv20_0⟩ := path_va hv20
      refine t_move rfl ?_ rfl
      refine t_move rfl ?_ rfl
      refine t_idx e_path (k := i) (by assumption) hx B rfl rfl (by first | rfl | omega) ?_ rfl
      intro p23 hp23
      refine t_lda (by assumption) ab_path sb_path B rfl ?_ rfl
      intro v24 hv24
      obtain ⟨v24_0, rfl, hv24_0⟩ := path_va hv24
      refine t_callx Try.call22 rfl (eqv_path _ _ _ _ (by first | assumption | exact VA.below (by assumption) B | exact path_mkv (by first | assumption | exact SlR.below (by assumption) B)) (by first | assumption | exact VA.below (by assumption) B | exact path_mkv (by first | assumption | exact SlR.below (by assumption) B)) (ok_path_big (by omega))) ?_ rfl rfl
      intro w31 x32
      have B := bx Hb B x32
      have S := S.below x32
      refine t_notb rfl ?_ rfl
      refine t_done' ?_
      refine x_seq ?_
      refine w_no rfl ?_
      refine w_skip ?_
      refine x_block_normal ?_
      refine x_seq ?_
      refine w_region ?_
      refine t_move rfl ?_ rfl
      refine t_add rfl rfl (by omega) ?_ rfl
      refine t_assign rfl ?_ rfl
      refine t_done ?_
      refine x_round (I := (fun i wq => i ≤ l.length ∧ Below w.heap.size w wq ∧ Sep w.heap.size wq [])) (F := (fun i => [(5, I ((i : Int))), (0, v), (1, u)])) (μ := (fun i => l.length - i)) (i + 1) ?_ (by exact ⟨rfl, rfl, rfl, trivial⟩) (by (try dsimp only); omega)
      try dsimp only
      exact ⟨by omega, B, S⟩
    · intro hge
      refine w_exit ?_
      refine x_then_exit ?_
      refine x_then_exit ?_
      refine x_block_exit ?_
      refine x_seq ?_
      refine w_seq ?_
      refine w_region ?_
      refine t_assign rfl ?_ rfl
      refine t_done ?_
      refine x_seq ?_
      refine w_ret ?_
      refine x_ret1 rfl rfl ?_
      exact ⟨rfl, ext_trans X0 B⟩
end Go.Proofs.Ytfgobdejlfojiaa
