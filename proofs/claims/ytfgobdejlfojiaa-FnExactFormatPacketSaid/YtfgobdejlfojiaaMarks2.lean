/- The laws' mark and held functions over parts, paths, segments. -/
import Derived.Test.YtfgobdejlfojiaaMarks
import Derived.Test.YtfgobdejlfojiaaHole
namespace Go.Proofs.Ytfgobdejlfojiaa
open Go.RowKit
set_option linter.unusedVariables false
set_option maxRecDepth 20000


def cnt_part (p : Part) : Int := 3 + 5 * (p.hops.length : Int)
def cnt_parts (l : List Part) : Int := (l.map cnt_part).sum
def mk_part (k : Int) (p : Part) : Part := ⟨k, k + 1, k + 1 + 1, gen_hop (k + 1 + 1 + 1) p.hops.length⟩
def mk_parts : Int → List Part → List Part
  | _, [] => []
  | k, p :: t => mk_part k p :: mk_parts (k + cnt_part p) t
theorem cnt_parts_snoc (l : List Part) (p : Part) : cnt_parts (l ++ [p]) = cnt_parts l + cnt_part p := by simp [cnt_parts]
theorem mk_parts_snoc (l : List Part) (p : Part) : ∀ k, mk_parts k (l ++ [p]) = mk_parts k l ++ [mk_part (k + cnt_parts l) p] := by
  induction l with
  | nil => intro k; simp [mk_parts, cnt_parts]
  | cons a t ih => intro k; simp only [List.cons_append, mk_parts, ih]; simp [cnt_parts, Int.add_assoc]
theorem mk_parts_len (l : List Part) : ∀ k, (mk_parts k l).length = l.length := by
  induction l with
  | nil => intro k; rfl
  | cons a t ih => intro k; simp [mk_parts, ih]
theorem cnt_parts_bd (l : List Part) : 0 ≤ cnt_parts l ∧ cnt_parts l ≤ 5 * (sz_parts l : Int) := by
  induction l with
  | nil => simp [cnt_parts, sz_parts]
  | cons a t ih =>
    have h1 : cnt_parts (a :: t) = cnt_part a + cnt_parts t := by simp [cnt_parts]
    have h2 : sz_parts (a :: t) = 1 + a.hops.length + sz_parts t := by simp [sz_parts, sz_part]; omega
    rw [h1, h2]
    unfold cnt_part
    omega
theorem cnt_parts_take (l : List Part) (i : Nat) {x : Part} (hx : l[i]? = some x) : cnt_parts (l.take i) + cnt_part x ≤ cnt_parts l ∧ 0 ≤ cnt_parts (l.take i) := by
  have h1 : l = (l.take i ++ [x]) ++ l.drop (i + 1) := by rw [← take_succ hx, List.take_append_drop]
  have h2 : cnt_parts l = cnt_parts (l.take i) + cnt_part x + cnt_parts (l.drop (i + 1)) := by
    have h3 : ∀ a b : List Part, cnt_parts (a ++ b) = cnt_parts a + cnt_parts b := fun a b => by simp [cnt_parts]
    have h4 : cnt_parts l = cnt_parts ((l.take i ++ [x]) ++ l.drop (i + 1)) := congrArg _ h1
    rw [h4, h3, cnt_parts_snoc]
  have := (cnt_parts_bd (l.drop (i + 1))).1
  have := (cnt_parts_bd (l.take i)).1
  omega
theorem mk_parts_at (l : List Part) : ∀ (k : Int) (i : Nat) x, l[i]? = some x → (mk_parts k l)[i]? = some (mk_part (k + cnt_parts (l.take i)) x) := by
  induction l with
  | nil => intro k i x h; simp at h
  | cons a t ih =>
    intro k i x h
    cases i with
    | zero => simp at h; subst h; simp [mk_parts, cnt_parts]
    | succ i =>
      simp at h
      simp only [mk_parts, List.getElem?_cons_succ, ih _ i x h]
      simp [cnt_parts, Int.add_assoc]
theorem mark_part (b : Nat) (os : List Ow) (l : List Part) (v : Value) (k : Int) (w : World) (S : Sep b w (slO partT 90 v l :: os)) (hz : sz_parts l ≤ 1099511627776) (hk : 0 ≤ k ∧ k ≤ 576460752303423488) :
    Calls Try.prog 99 #[v, I k] w fun e w' => e = .returned (I (k + cnt_parts l)) ∧ Sep b w' (slO partT 90 v (mk_parts k l) :: os) ∧ Below b w w' := by
  have hn : l.length ≤ 1099511627776 := by unfold sz_parts at hz; omega
  have hcb := cnt_parts_bd l
  have X0 := Below.refl w.heap.size w
  refine enter Try.func99 rfl Try.ntmps99 rfl ?_
  have B := Below.refl b w
  have Hb := S.base
  rcases Nat.eq_zero_or_pos l.length with h0 | h0
  · obtain rfl : l = [] := List.eq_nil_of_length_eq_zero h0
    refine w_seq ?_
    refine w_region ?_
    refine t_assign rfl ?_ rfl
    refine t_done ?_
    refine x_seq ?_
    refine w_seq ?_
    refine w_seq ?_
    refine w_region ?_
    refine t_assign rfl ?_ rfl
    refine t_done ?_
    refine x_seq ?_
    refine w_block ?_
    refine w_loop (X := Nat) (fun i wq => i = 0 ∧ Below b w wq ∧ Sep b wq (slO partT 90 v [] :: os)) (fun i => [(5, I ((i : Int))), (1, I k), (0, v), (4, I 0)]) (fun i => 0) (0) ?_ ⟨rfl, rfl, rfl, rfl, trivial⟩ ?_
    · exact ⟨rfl, B, S⟩
    · rintro i w1 hI
      try dsimp only at hI ⊢
      obtain ⟨rfl, B, S⟩ := hI
      refine w_seq ?_
      refine w_seq ?_
      refine w_region ?_
      refine t_move rfl ?_ rfl
      refine t_move rfl ?_ rfl
      refine t_len e_part (S.sl) rfl rfl ?_ rfl
      refine t_lss rfl rfl ?_ rfl
      refine t_done ?_
      refine x_seq ?_
      refine w_if rfl ?_ ?_
      · intro hlt
        simp at hlt
      · intro _
        refine w_exit ?_
        refine x_then_exit ?_
        refine x_then_exit ?_
        refine x_block_exit ?_
        refine x_seq ?_
        refine w_seq ?_
        refine w_region ?_
        refine t_move rfl ?_ rfl
        refine t_assign rfl ?_ rfl
        refine t_done ?_
        refine x_seq ?_
        refine w_ret ?_
        refine x_ret1 rfl rfl ?_
        exact ⟨by simp [cnt_parts], S, B⟩
  · obtain ⟨Gv, Cv, rfl⟩ := S.addr (by omega)
    refine w_seq ?_
    refine w_region ?_
    refine t_assign rfl ?_ rfl
    refine t_done ?_
    refine x_seq ?_
    refine w_seq ?_
    refine w_seq ?_
    refine w_region ?_
    refine t_assign rfl ?_ rfl
    refine t_done ?_
    refine x_seq ?_
    refine w_block ?_
    refine w_loop (X := Nat × Int) (fun x wq => (fun i q => i ≤ l.length ∧ q = k + cnt_parts (l.take i) ∧ Below b w wq ∧ Sep b wq (slO partT 90 (.slice (some ⟨Gv, 0, none⟩) l.length Cv) (mk_parts k (l.take i) ++ l.drop i) :: os)) x.1 x.2) (fun x => (fun i q => [(5, I ((i : Int))), (1, I q), (0, (.slice (some ⟨Gv, 0, none⟩) l.length Cv)), (4, I 0)]) x.1 x.2) (fun x => (fun i q => l.length - i) x.1 x.2) (0, k) ?_ ⟨rfl, rfl, rfl, rfl, trivial⟩ ?_
    · exact ⟨by omega, by simp [cnt_parts], B, by simpa [mk_parts] using S⟩
    · rintro ⟨i, q⟩ w2 hI
      try dsimp only at hI ⊢
      obtain ⟨hi, hq, B, S⟩ := hI
      refine w_seq ?_
      refine w_seq ?_
      refine w_region ?_
      refine t_move rfl ?_ rfl
      refine t_move rfl ?_ rfl
      refine t_lenx e_part rfl rfl ?_ rfl
      refine t_lss rfl rfl ?_ rfl
      refine t_done ?_
      refine x_seq ?_
      refine w_if rfl ?_ ?_
      · intro hlt
        obtain ⟨x, hx⟩ : ∃ x, l[i]? = some x := getx (by omega)
        have hml : (mk_parts k (l.take i)).length = i := by rw [mk_parts_len, List.length_take]; omega
        have hx0 := mid_at hml hx
        have hl1 : (mk_parts k (l.take i) ++ l.drop i).length = l.length := by rw [List.length_append, hml, List.length_drop]; omega
        have hct := cnt_parts_take l i hx
        have hcx : cnt_part x = 3 + 5 * (x.hops.length : Int) := rfl
        refine w_skip ?_
        refine x_seq ?_
        refine w_seq ?_
        refine w_block ?_
        refine w_seq ?_
        refine w_region ?_
        refine t_move rfl ?_ rfl
        refine t_move rfl ?_ rfl
        refine t_move rfl ?_ rfl
        refine t_idxx e_part (k := i) rfl rfl (by first | rfl | omega) (by omega) rfl ?_ rfl
        refine t_fldx fb_part_0 rfl rfl ?_ rfl
        refine t_stS (T := partT) (j := 0) (x' := { x with kind := q }) S (by (try simp only [List.length_set]); first | omega | simp) sb_int rfl rfl hx0 rfl (by decide) rfl rfl so_part_0 ?_
        intro w3 b4 S
        have B := B.trans b4
        have hq5 := set_at (y := { x with kind := q }) hx0
        refine t_done ?_
        refine x_seq ?_
        refine w_seq ?_
        refine w_region ?_
        refine t_move rfl ?_ rfl
        refine t_add rfl rfl (by omega) ?_ rfl
        refine t_assign rfl ?_ rfl
        refine t_done ?_
        refine x_seq ?_
        refine w_seq ?_
        refine w_region ?_
        refine t_move rfl ?_ rfl
        refine t_move rfl ?_ rfl
        refine t_move rfl ?_ rfl
        refine t_idxx e_part (k := i) rfl rfl (by first | rfl | omega) (by omega) rfl ?_ rfl
        refine t_fldx fb_part_1 rfl rfl ?_ rfl
        refine t_stS (T := partT) (j := 1) (x' := { ({ x with kind := q }) with ts := q + 1 }) S (by (try simp only [List.length_set]); first | omega | simp) sb_int rfl rfl hq5 rfl (by decide) rfl rfl so_part_1 ?_
        intro w6 b7 S
        have B := B.trans b7
        have hq8 := set_at (y := { ({ x with kind := q }) with ts := q + 1 }) hq5
        refine t_done ?_
        refine x_seq ?_
        refine w_seq ?_
        refine w_region ?_
        refine t_move rfl ?_ rfl
        refine t_add rfl rfl (by omega) ?_ rfl
        refine t_assign rfl ?_ rfl
        refine t_done ?_
        refine x_seq ?_
        refine w_seq ?_
        refine w_region ?_
        refine t_move rfl ?_ rfl
        refine t_move rfl ?_ rfl
        refine t_move rfl ?_ rfl
        refine t_idxx e_part (k := i) rfl rfl (by first | rfl | omega) (by omega) rfl ?_ rfl
        refine t_fldx fb_part_2 rfl rfl ?_ rfl
        refine t_stS (T := partT) (j := 2) (x' := { ({ ({ x with kind := q }) with ts := q + 1 }) with beta := (q + 1) + 1 }) S (by (try simp only [List.length_set]); first | omega | simp) sb_int rfl rfl hq8 rfl (by decide) rfl rfl so_part_2 ?_
        intro w9 b10 S
        have B := B.trans b10
        have hq11 := set_at (y := { ({ ({ x with kind := q }) with ts := q + 1 }) with beta := (q + 1) + 1 }) hq8
        refine t_done ?_
        refine x_seq ?_
        refine w_seq ?_
        refine w_region ?_
        refine t_move rfl ?_ rfl
        refine t_add rfl rfl (by omega) ?_ rfl
        refine t_assign rfl ?_ rfl
        refine t_done ?_
        refine x_seq ?_
        refine w_region ?_
        refine t_move rfl ?_ rfl
        refine t_move rfl ?_ rfl
        refine t_idxx e_part (k := i) rfl rfl (by first | rfl | omega) (by omega) rfl ?_ rfl
        refine t_fldx fb_part_3 rfl rfl ?_ rfl
        obtain ⟨cs37, S, hc37⟩ := S.split hq11
        obtain ⟨u37, rfl, S⟩ := S.partOpen
        refine t_ld1 ab_s_hop (hc37 _ _ _ rfl 3 _ rfl) (Below.refl _ _) rfl ?_ rfl
        refine t_move rfl ?_ rfl
        refine t_callf Try.call153 rfl (mark_hop _ _ _ _ _ _ S (by simp; omega) (by omega)) ?_ rfl
        rintro e w12 ⟨rfl, S, x13⟩
        refine ⟨_, rfl, ?_⟩
        have B := B.trans x13
        refine t_assign rfl ?_ rfl
        refine t_done ?_
        refine x_block_normal ?_
        refine x_seq ?_
        refine w_region ?_
        refine t_move rfl ?_ rfl
        refine t_add rfl rfl (by omega) ?_ rfl
        refine t_assign rfl ?_ rfl
        refine t_done ?_
        have S := S.partShut (x := ⟨q, q + 1, q + 1 + 1, gen_hop (q + 1 + 1 + 1) x.hops.length⟩)
        have S := S.join
        refine x_round (I := (fun x wq => (fun i q => i ≤ l.length ∧ q = k + cnt_parts (l.take i) ∧ Below b w wq ∧ Sep b wq (slO partT 90 (.slice (some ⟨Gv, 0, none⟩) l.length Cv) (mk_parts k (l.take i) ++ l.drop i) :: os)) x.1 x.2)) (F := (fun x => (fun i q => [(5, I ((i : Int))), (1, I q), (0, (.slice (some ⟨Gv, 0, none⟩) l.length Cv)), (4, I 0)]) x.1 x.2)) (μ := (fun x => (fun i q => l.length - i) x.1 x.2)) (i + 1, (((q + 1) + 1) + 1) + 5 * (x.hops.length : Int)) ?_ (by exact ⟨rfl, rfl, rfl, rfl, trivial⟩) (by (try dsimp only); omega)
        try dsimp only
        have hm := mid_set (y := mk_part q x) hml hx
        rw [take_succ hx, cnt_parts_snoc, mk_parts_snoc, ← hq, ← hm]
        refine ⟨by omega, by omega, B, ?_⟩
        simp only [List.set_set] at S
        exact S
      · intro hge
        refine w_exit ?_
        refine x_then_exit ?_
        refine x_then_exit ?_
        refine x_block_exit ?_
        refine x_seq ?_
        refine w_seq ?_
        refine w_region ?_
        refine t_move rfl ?_ rfl
        refine t_assign rfl ?_ rfl
        refine t_done ?_
        refine x_seq ?_
        refine w_ret ?_
        refine x_ret1 rfl rfl ?_
        have : i = l.length := by omega
        subst this
        rw [List.take_length] at hq S
        refine ⟨ret_int hq, ?_, B⟩
        simpa using S
theorem held_part (l : List Part) (v : Value) (k : Int) (w : World) (h : SlR partT w v (mk_parts k l)) (hz : sz_parts l ≤ 1099511627776) (hk : 0 ≤ k ∧ k ≤ 576460752303423488) :
    Calls Try.prog 100 #[v, I k] w fun e w' => e = .returned (I (k + cnt_parts l)) ∧ Below w.heap.size w w' := by
  have hn : l.length ≤ 1099511627776 := by unfold sz_parts at hz; omega
  have hcb := cnt_parts_bd l
  have hlen := mk_parts_len l k
  obtain ⟨L, HL⟩ : ∃ L, L = mk_parts k l := ⟨_, rfl⟩
  rw [← HL] at h hlen
  have X0 := Below.refl w.heap.size w
  refine enter Try.func100 rfl Try.ntmps100 rfl ?_
  refine w_seq ?_
  refine w_region ?_
  have S := Sep.nil w
  have B := Below.refl w.heap.size w
  have Hb := Nat.le_refl w.heap.size
  refine t_assign rfl ?_ rfl
  refine t_done ?_
  refine x_seq ?_
  refine w_seq ?_
  refine w_seq ?_
  refine w_region ?_
  refine t_assign rfl ?_ rfl
  refine t_done ?_
  refine x_seq ?_
  refine w_block ?_
  refine w_loop (X := Nat × Int) (fun x wq => (fun i q => i ≤ l.length ∧ q = k + cnt_parts (l.take i) ∧ Below w.heap.size w wq ∧ Sep w.heap.size wq []) x.1 x.2) (fun x => (fun i q => [(5, I ((i : Int))), (1, I q), (0, v)]) x.1 x.2) (fun x => (fun i q => l.length - i) x.1 x.2) (0, k) ?_ ⟨rfl, rfl, rfl, trivial⟩ ?_
  · exact ⟨by omega, by simp [cnt_parts], B, S⟩
  · rintro ⟨i, q⟩ w14 hI
    try dsimp only at hI ⊢
    obtain ⟨hi, hq, B, S⟩ := hI
    refine w_seq ?_
    refine w_seq ?_
    refine w_region ?_
    refine t_move rfl ?_ rfl
    refine t_move rfl ?_ rfl
    refine t_len e_part (by assumption) rfl rfl ?_ rfl
    refine t_lss rfl rfl ?_ rfl
    refine t_done ?_
    refine x_seq ?_
    refine w_if rfl ?_ ?_
    · intro hlt
      obtain ⟨x, hx⟩ : ∃ x, l[i]? = some x := getx (by omega)
      have hat := mk_parts_at l k i x hx
      rw [← HL, ← hq] at hat
      have hct := cnt_parts_take l i hx
      have hcx : cnt_part x = 3 + 5 * (x.hops.length : Int) := rfl
      refine w_skip ?_
      refine x_seq ?_
      refine w_seq ?_
      refine w_block ?_
      refine w_seq ?_
      refine w_seq ?_
      refine w_region ?_
      refine t_move rfl ?_ rfl
      refine t_move rfl ?_ rfl
      refine t_idx e_part (k := i) (by assumption) hat B rfl rfl (by first | rfl | omega) ?_ rfl
      intro p14 hp14
      refine t_fld ln_part_0 (by assumption) fb_part_0 rfl ?_ rfl
      intro p15 hp15
      refine t_ldi (by assumption) ab_int B rfl ?_ rfl
      refine t_move rfl ?_ rfl
      refine t_neq rfl rfl ?_ rfl
      refine t_done ?_
      refine x_seq ?_
      refine w_if rfl ?_ ?_
      · intro hne
        exact absurd rfl hne
      · intro _
        refine w_skip ?_
        refine x_seq ?_
        refine w_seq ?_
        refine w_region ?_
        refine t_move rfl ?_ rfl
        refine t_add rfl rfl (by omega) ?_ rfl
        refine t_assign rfl ?_ rfl
        refine t_done ?_
        refine x_seq ?_
        refine w_seq ?_
        refine w_seq ?_
        refine w_region ?_
        refine t_move rfl ?_ rfl
        refine t_move rfl ?_ rfl
        refine t_idx e_part (k := i) (by assumption) hat B rfl rfl (by first | rfl | omega) ?_ rfl
        intro p23 hp23
        refine t_fld ln_part_1 (by assumption) fb_part_1 rfl ?_ rfl
        intro p24 hp24
        refine t_ldi (by assumption) ab_int B rfl ?_ rfl
        refine t_move rfl ?_ rfl
        refine t_neq rfl rfl ?_ rfl
        refine t_done ?_
        refine x_seq ?_
        refine w_if rfl ?_ ?_
        · intro hne
          exact absurd rfl hne
        · intro _
          refine w_skip ?_
          refine x_seq ?_
          refine w_seq ?_
          refine w_region ?_
          refine t_move rfl ?_ rfl
          refine t_add rfl rfl (by omega) ?_ rfl
          refine t_assign rfl ?_ rfl
          refine t_done ?_
          refine x_seq ?_
          refine w_seq ?_
          refine w_seq ?_
          refine w_region ?_
          refine t_move rfl ?_ rfl
          refine t_move rfl ?_ rfl
          refine t_idx e_part (k := i) (by assumption) hat B rfl rfl (by first | rfl | omega) ?_ rfl
          intro p32 hp32
          refine t_fld ln_part_2 (by assumption) fb_part_2 rfl ?_ rfl
          intro p33 hp33
          refine t_ldi (by assumption) ab_int B rfl ?_ rfl
          refine t_move rfl ?_ rfl
          refine t_neq rfl rfl ?_ rfl
          refine t_done ?_
          refine x_seq ?_
          refine w_if rfl ?_ ?_
          · intro hne
            exact absurd rfl hne
          · intro _
            refine w_skip ?_
            refine x_seq ?_
            refine w_seq ?_
            refine w_region ?_
            refine t_move rfl ?_ rfl
            refine t_add rfl rfl (by omega) ?_ rfl
            refine t_assign rfl ?_ rfl
            refine t_done ?_
            refine x_seq ?_
            refine w_seq ?_
            refine w_region ?_
            refine t_move rfl ?_ rfl
            refine t_move rfl ?_ rfl
            refine t_idx e_part (k := i) (by assumption) hat B rfl rfl (by first | rfl | omega) ?_ rfl
            intro p41 hp41
            refine t_fld ln_part_3 (by assumption) fb_part_3 rfl ?_ rfl
            intro p42 hp42
            refine t_lds (by assumption) ab_s_hop B rfl ?_ rfl
            intro v43 hv43
            refine t_move rfl ?_ rfl
            refine t_callx Try.call154 rfl (held_hop x.hops.length _ _ _ (by first | assumption | exact SlR.below (by assumption) B) (by omega) (by omega)) ?_ rfl rfl
            intro w15 x16
            have B := bx Hb B x16
            have S := S.below x16
            refine t_assign rfl ?_ rfl
            refine t_done ?_
            refine x_seq ?_
            refine w_seq ?_
            refine w_region ?_
            refine t_move rfl ?_ rfl
            refine t_lss rfl rfl ?_ rfl
            refine t_done ?_
            refine x_seq ?_
            refine w_if rfl ?_ ?_
            · intro hneg
              exfalso
              omega
            · intro _
              refine w_skip ?_
              refine x_block_normal ?_
              refine x_seq ?_
              refine w_region ?_
              refine t_move rfl ?_ rfl
              refine t_add rfl rfl (by omega) ?_ rfl
              refine t_assign rfl ?_ rfl
              refine t_done ?_
              refine x_round (I := (fun x wq => (fun i q => i ≤ l.length ∧ q = k + cnt_parts (l.take i) ∧ Below w.heap.size w wq ∧ Sep w.heap.size wq []) x.1 x.2)) (F := (fun x => (fun i q => [(5, I ((i : Int))), (1, I q), (0, v)]) x.1 x.2)) (μ := (fun x => (fun i q => l.length - i) x.1 x.2)) (i + 1, (((q + 1) + 1) + 1) + 5 * (x.hops.length : Int)) ?_ (by exact ⟨rfl, rfl, rfl, trivial⟩) (by (try dsimp only); omega)
              try dsimp only
              rw [take_succ hx, cnt_parts_snoc, ← Int.add_assoc, ← hq]
              exact ⟨by omega, by omega, B, S⟩
    · intro hge
      refine w_exit ?_
      refine x_then_exit ?_
      refine x_then_exit ?_
      refine x_block_exit ?_
      refine x_seq ?_
      refine w_seq ?_
      refine w_region ?_
      refine t_move rfl ?_ rfl
      refine t_assign rfl ?_ rfl
      refine t_done ?_
      refine x_seq ?_
      refine w_ret ?_
      refine x_ret1 rfl rfl ?_
      have : i = l.length := by omega
      subst this
      rw [List.take_length] at hq
      exact ⟨ret_int hq, ext_trans X0 B⟩

/-! ### Values that hold such slices -/

theorem mark_path (b : Nat) (os : List Ow) (p : Path) (v : Value) (k : Int) (w : World) (S : Sep b w (slO partT 90 v p :: os)) (hz : sz_path p ≤ 1099511627776) (hk : 0 ≤ k ∧ k ≤ 576460752303423488) :
    Calls Try.prog 39 #[.agg #[v], I k] w fun e w' => e = .returned (I (k + cnt_parts p)) ∧ Sep b w' (slO partT 90 v (mk_parts k p) :: os) ∧ Below b w w' := by
  obtain ⟨A, c, rfl, _⟩ := S.sl.form
  have X0 := Below.refl w.heap.size w
  refine enter Try.func39 rfl Try.ntmps39 rfl ?_
  have B := Below.refl b w
  have Hb := S.base
  refine w_seq ?_
  refine w_region ?_
  refine t_boxo S rfl rfl ?_ rfl rfl
  intro g2 w17 x18 S
  have B := bx Hb B x18
  refine t_assign rfl ?_ rfl
  refine t_done ?_
  refine x_seq ?_
  refine w_seq ?_
  refine w_region ?_
  refine t_fldx fb_path_0 rfl rfl ?_ rfl
  refine t_bx1 S.box ab_s_part rfl rfl ?_ rfl
  refine t_move rfl ?_ rfl
  have S := S.f1
  refine t_callf Try.call99 rfl (mark_part _ _ _ _ _ _ S (by exact hz) (by omega)) ?_ rfl
  rintro e w19 ⟨rfl, S, x20⟩
  refine ⟨_, rfl, ?_⟩
  have B := B.trans x20
  refine t_assign rfl ?_ rfl
  refine t_done ?_
  refine x_seq ?_
  refine w_seq ?_
  refine w_region ?_
  refine t_move rfl ?_ rfl
  refine t_assign rfl ?_ rfl
  refine t_done ?_
  refine x_seq ?_
  refine w_ret ?_
  refine x_ret1 rfl rfl ?_
  exact ⟨rfl, S.rm1, B⟩

theorem held_path (p : Path) (v : Value) (k : Int) (w : World) (h : SlR partT w v (mk_parts k p)) (hz : sz_path p ≤ 1099511627776) (hk : 0 ≤ k ∧ k ≤ 576460752303423488) :
    Calls Try.prog 40 #[.agg #[v], I k] w fun e w' => e = .returned (I (k + cnt_parts p)) ∧ Below w.heap.size w w' := by
  have hcb := cnt_parts_bd p
  have hz' : sz_parts p ≤ 1099511627776 := hz
  have X0 := Below.refl w.heap.size w
  refine enter Try.func40 rfl Try.ntmps40 rfl ?_
  have ha := h
  refine w_seq ?_
  refine w_region ?_
  have S := Sep.nil w
  have B := Below.refl w.heap.size w
  have Hb := Nat.le_refl w.heap.size
  refine t_boxo S rfl rfl ?_ rfl rfl
  intro g2 w21 x22 S
  have B := bx Hb B x22
  refine t_assign rfl ?_ rfl
  refine t_done ?_
  refine x_seq ?_
  refine w_seq ?_
  refine w_region ?_
  refine t_fldx fb_path_0 rfl rfl ?_ rfl
  refine t_bx1 S.box ab_s_part rfl rfl ?_ rfl
  refine t_move rfl ?_ rfl
  refine t_callx Try.call100 rfl (held_part p _ _ _ (by first | assumption | exact SlR.below (by assumption) B) (by exact hz) (by omega)) ?_ rfl rfl
  intro w23 x24
  have B := bx Hb B x24
  have S := S.below x24
  refine t_assign rfl ?_ rfl
  refine t_done ?_
  refine x_seq ?_
  refine w_seq ?_
  refine w_seq ?_
  refine w_region ?_
  refine t_move rfl ?_ rfl
  refine t_lss rfl rfl ?_ rfl
  refine t_done ?_
  refine x_seq ?_
  refine w_if rfl ?_ ?_
  · intro hneg
    exfalso
    omega
  · intro _
    refine w_skip ?_
    refine x_seq ?_
    refine w_seq ?_
    refine w_region ?_
    refine t_move rfl ?_ rfl
    refine t_assign rfl ?_ rfl
    refine t_done ?_
    refine x_seq ?_
    refine w_ret ?_
    refine x_ret1 rfl rfl ?_
    exact ⟨rfl, ext_trans X0 B⟩

end Go.Proofs.Ytfgobdejlfojiaa
