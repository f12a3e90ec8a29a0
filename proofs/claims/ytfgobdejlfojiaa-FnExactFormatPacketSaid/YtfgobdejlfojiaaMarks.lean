/- The laws' mark and held functions: a mark writes a row of numbers into all that a value leads to; held reads them again. (Printed by marks.py.) -/
import Derived.Test.YtfgobdejlfojiaaMut
import Derived.Test.YtfgobdejlfojiaaPlain
namespace Go.Proofs.Ytfgobdejlfojiaa
open Go.RowKit
set_option linter.unusedVariables false
set_option maxRecDepth 20000

theorem gen_succ {α : Type} (f : Nat → α) (i : Nat) : (List.range (i + 1)).map f = (List.range i).map f ++ [f i] := by rw [List.range_succ]; simp
theorem gen_at {α : Type} (f : Nat → α) {n i : Nat} (h : i < n) : ((List.range n).map f)[i]? = some (f i) := by
  rw [List.getElem?_map, List.getElem?_range h]; rfl

def at_int (k : Int) : Int := k
/-- n elements that bear the numbers from k on. -/
def gen_int (k : Int) (n : Nat) : List Int := (List.range n).map fun (i : Nat) => at_int (k + 1 * (i : Int))
theorem gen_int_len (k : Int) (n : Nat) : (gen_int k n).length = n := by simp [gen_int]
theorem gen_int_succ (k : Int) (n : Nat) : gen_int k (n + 1) = gen_int k n ++ [at_int (k + 1 * n)] := gen_succ _ n
theorem gen_int_at (k : Int) {n i : Nat} (h : i < n) : (gen_int k n)[i]? = some (at_int (k + 1 * i)) := gen_at _ h
def at_byte (k : Int) : UInt8 := bt k
/-- n elements that bear the numbers from k on. -/
def gen_byte (k : Int) (n : Nat) : List UInt8 := (List.range n).map fun (i : Nat) => at_byte (k + 1 * (i : Int))
theorem gen_byte_len (k : Int) (n : Nat) : (gen_byte k n).length = n := by simp [gen_byte]
theorem gen_byte_succ (k : Int) (n : Nat) : gen_byte k (n + 1) = gen_byte k n ++ [at_byte (k + 1 * n)] := gen_succ _ n
theorem gen_byte_at (k : Int) {n i : Nat} (h : i < n) : (gen_byte k n)[i]? = some (at_byte (k + 1 * i)) := gen_at _ h
theorem mark_byte (b : Nat) (os : List Ow) (l : List UInt8) (v : Value) (k : Int) (w : World) (S : Sep b w (slO byteT 5 v l :: os)) (hn : l.length ≤ 1099511627776) (hk : 0 ≤ k ∧ k ≤ 1152921504606846976) :
    Calls Try.prog 38 #[v, I k] w fun e w' => e = .returned (I (k + 1 * l.length)) ∧ Sep b w' (slO byteT 5 v (gen_byte k l.length) :: os) ∧ Below b w w' := by
  have X0 := Below.refl w.heap.size w
  refine enter Try.func38 rfl Try.ntmps38 rfl ?_
  have B := Below.refl b w
  have Hb := S.base
  rcases Nat.eq_zero_or_pos l.length with h0 | h0
  · obtain rfl : l = [] := List.eq_nil_of_length_eq_zero h0
    refine w_seq ?_
    refine w_region ?_
    refine t_assign rfl ?_ rfl
    refine t_done ?_
    refine x_seq ?_
    refine w_seq ?_
    refine w_seq ?_
    refine w_region ?_
    refine t_assign rfl ?_ rfl
    refine t_done ?_
    refine x_seq ?_
    refine w_block ?_
    refine w_loop (X := Nat) (fun i wq => i = 0 ∧ Below b w wq ∧ Sep b wq (slO byteT 5 v [] :: os)) (fun i => [(5, I ((i : Int))), (1, I k), (0, v), (4, I 0)]) (fun i => 0) (0) ?_ ⟨rfl, rfl, rfl, rfl, trivial⟩ ?_
    · exact ⟨rfl, B, S⟩
    · rintro i w1 hI
      try dsimp only at hI ⊢
      obtain ⟨rfl, B, S⟩ := hI
      refine w_seq ?_
      refine w_seq ?_
      refine w_region ?_
      refine t_move rfl ?_ rfl
      refine t_move rfl ?_ rfl
      refine t_len e_byte (S.sl) rfl rfl ?_ rfl
      refine t_lss rfl rfl ?_ rfl
      refine t_done ?_
      refine x_seq ?_
      refine w_if rfl ?_ ?_
      · intro hlt
        simp at hlt
      · intro _
        refine w_exit ?_
        refine x_then_exit ?_
        refine x_then_exit ?_
        refine x_block_exit ?_
        refine x_seq ?_
        refine w_seq ?_
        refine w_region ?_
        refine t_move rfl ?_ rfl
        refine t_assign rfl ?_ rfl
        refine t_done ?_
        refine x_seq ?_
        refine w_ret ?_
        refine x_ret1 rfl rfl ?_
        exact ⟨by simp, by simpa [gen_byte] using S, B⟩
  · obtain ⟨Gv, Cv, rfl⟩ := S.addr (by omega)
    refine w_seq ?_
    refine w_region ?_
    refine t_assign rfl ?_ rfl
    refine t_done ?_
    refine x_seq ?_
    refine w_seq ?_
    refine w_seq ?_
    refine w_region ?_
    refine t_assign rfl ?_ rfl
    refine t_done ?_
    refine x_seq ?_
    refine w_block ?_
    refine w_loop (X := Nat × Int) (fun x wq => (fun i q => i ≤ l.length ∧ q = k + 1 * i ∧ Below b w wq ∧ Sep b wq (slO byteT 5 (.slice (some ⟨Gv, 0, none⟩) l.length Cv) (gen_byte k i ++ l.drop i) :: os)) x.1 x.2) (fun x => (fun i q => [(5, I ((i : Int))), (1, I q), (0, (.slice (some ⟨Gv, 0, none⟩) l.length Cv)), (4, I 0)]) x.1 x.2) (fun x => (fun i q => l.length - i) x.1 x.2) (0, k) ?_ ⟨rfl, rfl, rfl, rfl, trivial⟩ ?_
    · exact ⟨by omega, by omega, B, by simpa [gen_byte] using S⟩
    · rintro ⟨i, q⟩ w2 hI
      try dsimp only at hI ⊢
      obtain ⟨hi, hq, B, S⟩ := hI
      refine w_seq ?_
      refine w_seq ?_
      refine w_region ?_
      refine t_move rfl ?_ rfl
      refine t_move rfl ?_ rfl
      refine t_lenx e_byte rfl rfl ?_ rfl
      refine t_lss rfl rfl ?_ rfl
      refine t_done ?_
      refine x_seq ?_
      refine w_if rfl ?_ ?_
      · intro hlt
        obtain ⟨x, hx⟩ : ∃ x, l[i]? = some x := getx (by omega)
        have hx0 := mid_at (gen_byte_len k i) hx
        have hl1 : (gen_byte k i ++ l.drop i).length = l.length := by rw [List.length_append, gen_byte_len, List.length_drop]; omega
        refine w_skip ?_
        refine x_seq ?_
        refine w_seq ?_
        refine w_block ?_
        refine w_seq ?_
        refine w_region ?_
        refine t_move rfl ?_ rfl
        refine t_move rfl ?_ rfl
        refine t_move rfl ?_ rfl
        refine t_conv Try.underlying3 Try.underlying5 rfl ?_ rfl
        refine t_idxx e_byte (k := i) rfl rfl (by first | rfl | omega) (by omega) rfl ?_ rfl
        refine t_stS (T := byteT) (j := 0) (x' := bt q) S (by (try simp only [List.length_set]); first | omega | simp) sb_byte rfl rfl hx0 rfl (by decide) rfl rfl so_byte ?_
        intro w3 b4 S
        have B := B.trans b4
        have hq5 := set_at (y := bt q) hx0
        refine t_done ?_
        refine x_seq ?_
        refine w_region ?_
        refine t_move rfl ?_ rfl
        refine t_add rfl rfl (by omega) ?_ rfl
        refine t_assign rfl ?_ rfl
        refine t_done ?_
        refine x_block_normal ?_
        refine x_seq ?_
        refine w_region ?_
        refine t_move rfl ?_ rfl
        refine t_add rfl rfl (by omega) ?_ rfl
        refine t_assign rfl ?_ rfl
        refine t_done ?_
        refine x_round (I := (fun x wq => (fun i q => i ≤ l.length ∧ q = k + 1 * i ∧ Below b w wq ∧ Sep b wq (slO byteT 5 (.slice (some ⟨Gv, 0, none⟩) l.length Cv) (gen_byte k i ++ l.drop i) :: os)) x.1 x.2)) (F := (fun x => (fun i q => [(5, I ((i : Int))), (1, I q), (0, (.slice (some ⟨Gv, 0, none⟩) l.length Cv)), (4, I 0)]) x.1 x.2)) (μ := (fun x => (fun i q => l.length - i) x.1 x.2)) (i + 1, q + 1) ?_ (by exact ⟨rfl, rfl, rfl, rfl, trivial⟩) (by (try dsimp only); omega)
        try dsimp only
        refine ⟨by omega, by omega, B, ?_⟩
        have hm := mid_set (y := at_byte (k + 1 * i)) (gen_byte_len k i) hx
        rw [gen_byte_succ, ← hm, ← hq]
        (try simp only [List.set_set] at S)
        exact S
      · intro hge
        refine w_exit ?_
        refine x_then_exit ?_
        refine x_then_exit ?_
        refine x_block_exit ?_
        refine x_seq ?_
        refine w_seq ?_
        refine w_region ?_
        refine t_move rfl ?_ rfl
        refine t_assign rfl ?_ rfl
        refine t_done ?_
        refine x_seq ?_
        refine w_ret ?_
        refine x_ret1 rfl rfl ?_
        have : i = l.length := by omega
        subst this
        refine ⟨ret_int (by omega), ?_, B⟩
        simpa using S
theorem held_byte (n : Nat) (v : Value) (k : Int) (w : World) (h : SlR byteT w v (gen_byte k n)) (hn : n ≤ 1099511627776) (hk : 0 ≤ k ∧ k ≤ 1152921504606846976) :
    Calls Try.prog 45 #[v, I k] w fun e w' => e = .returned (I (k + 1 * n)) ∧ Below w.heap.size w w' := by
  have hlen := gen_byte_len k n
  obtain ⟨L, HL⟩ : ∃ L, L = gen_byte k n := ⟨_, rfl⟩
  rw [← HL] at h hlen
  have X0 := Below.refl w.heap.size w
  refine enter Try.func45 rfl Try.ntmps45 rfl ?_
  refine w_seq ?_
  refine w_region ?_
  have S := Sep.nil w
  have B := Below.refl w.heap.size w
  have Hb := Nat.le_refl w.heap.size
  refine t_assign rfl ?_ rfl
  refine t_done ?_
  refine x_seq ?_
  refine w_seq ?_
  refine w_seq ?_
  refine w_region ?_
  refine t_assign rfl ?_ rfl
  refine t_done ?_
  refine x_seq ?_
  refine w_block ?_
  refine w_loop (X := Nat × Int) (fun x wq => (fun i q => i ≤ n ∧ q = k + 1 * i ∧ Below w.heap.size w wq ∧ Sep w.heap.size wq []) x.1 x.2) (fun x => (fun i q => [(5, I ((i : Int))), (1, I q), (0, v)]) x.1 x.2) (fun x => (fun i q => n - i) x.1 x.2) (0, k) ?_ ⟨rfl, rfl, rfl, trivial⟩ ?_
  · exact ⟨by omega, by omega, B, S⟩
  · rintro ⟨i, q⟩ w6 hI
    try dsimp only at hI ⊢
    obtain ⟨hi, hq, B, S⟩ := hI
    refine w_seq ?_
    refine w_seq ?_
    refine w_region ?_
    refine t_move rfl ?_ rfl
    refine t_move rfl ?_ rfl
    refine t_len e_byte (by assumption) rfl rfl ?_ rfl
    refine t_lss rfl rfl ?_ rfl
    refine t_done ?_
    refine x_seq ?_
    refine w_if rfl ?_ ?_
    · intro hlt
      have hat := gen_byte_at k (n := n) (i := i) (by omega)
      rw [← HL] at hat
      refine w_skip ?_
      refine x_seq ?_
      refine w_seq ?_
      refine w_block ?_
      refine w_seq ?_
      refine w_seq ?_
      refine w_region ?_
      refine t_move rfl ?_ rfl
      refine t_move rfl ?_ rfl
      refine t_idx e_byte (k := i) (by assumption) hat B rfl rfl (by first | rfl | omega) ?_ rfl
      intro p14 hp14
      refine t_ldu (by assumption) ab_byte B rfl ?_ rfl
      refine t_move rfl ?_ rfl
      refine t_conv Try.underlying3 Try.underlying5 rfl ?_ rfl
      refine t_neq rfl rfl ?_ rfl
      refine t_done ?_
      refine x_seq ?_
      refine w_if rfl ?_ ?_
      · intro hne
        exact absurd (by rw [hq]; exact bt_toNat _) hne
      · intro _
        refine w_skip ?_
        refine x_seq ?_
        refine w_region ?_
        refine t_move rfl ?_ rfl
        refine t_add rfl rfl (by omega) ?_ rfl
        refine t_assign rfl ?_ rfl
        refine t_done ?_
        refine x_block_normal ?_
        refine x_seq ?_
        refine w_region ?_
        refine t_move rfl ?_ rfl
        refine t_add rfl rfl (by omega) ?_ rfl
        refine t_assign rfl ?_ rfl
        refine t_done ?_
        refine x_round (I := (fun x wq => (fun i q => i ≤ n ∧ q = k + 1 * i ∧ Below w.heap.size w wq ∧ Sep w.heap.size wq []) x.1 x.2)) (F := (fun x => (fun i q => [(5, I ((i : Int))), (1, I q), (0, v)]) x.1 x.2)) (μ := (fun x => (fun i q => n - i) x.1 x.2)) (i + 1, q + 1) ?_ (by exact ⟨rfl, rfl, rfl, trivial⟩) (by (try dsimp only); omega)
        try dsimp only
        exact ⟨by omega, by omega, B, S⟩
    · intro hge
      refine w_exit ?_
      refine x_then_exit ?_
      refine x_then_exit ?_
      refine x_block_exit ?_
      refine x_seq ?_
      refine w_seq ?_
      refine w_region ?_
      refine t_move rfl ?_ rfl
      refine t_assign rfl ?_ rfl
      refine t_done ?_
      refine x_seq ?_
      refine w_ret ?_
      refine x_ret1 rfl rfl ?_
      have : i = n := by omega
      subst this
      exact ⟨ret_int (by omega), ext_trans X0 B⟩
def at_hop (k : Int) : Hop := ⟨k, k + 1, k + 1 + 1, k + 1 + 1 + 1, k + 1 + 1 + 1 + 1⟩
/-- n elements that bear the numbers from k on. -/
def gen_hop (k : Int) (n : Nat) : List Hop := (List.range n).map fun (i : Nat) => at_hop (k + 5 * (i : Int))
theorem gen_hop_len (k : Int) (n : Nat) : (gen_hop k n).length = n := by simp [gen_hop]
theorem gen_hop_succ (k : Int) (n : Nat) : gen_hop k (n + 1) = gen_hop k n ++ [at_hop (k + 5 * n)] := gen_succ _ n
theorem gen_hop_at (k : Int) {n i : Nat} (h : i < n) : (gen_hop k n)[i]? = some (at_hop (k + 5 * i)) := gen_at _ h
theorem mark_hop (b : Nat) (os : List Ow) (l : List Hop) (v : Value) (k : Int) (w : World) (S : Sep b w (slO hopT 93 v l :: os)) (hn : l.length ≤ 1099511627776) (hk : 0 ≤ k ∧ k ≤ 1152921504606846976) :
    Calls Try.prog 153 #[v, I k] w fun e w' => e = .returned (I (k + 5 * l.length)) ∧ Sep b w' (slO hopT 93 v (gen_hop k l.length) :: os) ∧ Below b w w' := by
  have X0 := Below.refl w.heap.size w
  refine enter Try.func153 rfl Try.ntmps153 rfl ?_
  have B := Below.refl b w
  have Hb := S.base
  rcases Nat.eq_zero_or_pos l.length with h0 | h0
  · obtain rfl : l = [] := List.eq_nil_of_length_eq_zero h0
    refine w_seq ?_
    refine w_region ?_
    refine t_assign rfl ?_ rfl
    refine t_done ?_
    refine x_seq ?_
    refine w_seq ?_
    refine w_seq ?_
    refine w_region ?_
    refine t_assign rfl ?_ rfl
    refine t_done ?_
    refine x_seq ?_
    refine w_block ?_
    refine w_loop (X := Nat) (fun i wq => i = 0 ∧ Below b w wq ∧ Sep b wq (slO hopT 93 v [] :: os)) (fun i => [(5, I ((i : Int))), (1, I k), (0, v), (4, I 0)]) (fun i => 0) (0) ?_ ⟨rfl, rfl, rfl, rfl, trivial⟩ ?_
    · exact ⟨rfl, B, S⟩
    · rintro i w7 hI
      try dsimp only at hI ⊢
      obtain ⟨rfl, B, S⟩ := hI
      refine w_seq ?_
      refine w_seq ?_
      refine w_region ?_
      refine t_move rfl ?_ rfl
      refine t_move rfl ?_ rfl
      refine t_len e_hop (S.sl) rfl rfl ?_ rfl
      refine t_lss rfl rfl ?_ rfl
      refine t_done ?_
      refine x_seq ?_
      refine w_if rfl ?_ ?_
      · intro hlt
        simp at hlt
      · intro _
        refine w_exit ?_
        refine x_then_exit ?_
        refine x_then_exit ?_
        refine x_block_exit ?_
        refine x_seq ?_
        refine w_seq ?_
        refine w_region ?_
        refine t_move rfl ?_ rfl
        refine t_assign rfl ?_ rfl
        refine t_done ?_
        refine x_seq ?_
        refine w_ret ?_
        refine x_ret1 rfl rfl ?_
        exact ⟨by simp, by simpa [gen_hop] using S, B⟩
  · obtain ⟨Gv, Cv, rfl⟩ := S.addr (by omega)
    refine w_seq ?_
    refine w_region ?_
    refine t_assign rfl ?_ rfl
    refine t_done ?_
    refine x_seq ?_
    refine w_seq ?_
    refine w_seq ?_
    refine w_region ?_
    refine t_assign rfl ?_ rfl
    refine t_done ?_
    refine x_seq ?_
    refine w_block ?_
    refine w_loop (X := Nat × Int) (fun x wq => (fun i q => i ≤ l.length ∧ q = k + 5 * i ∧ Below b w wq ∧ Sep b wq (slO hopT 93 (.slice (some ⟨Gv, 0, none⟩) l.length Cv) (gen_hop k i ++ l.drop i) :: os)) x.1 x.2) (fun x => (fun i q => [(5, I ((i : Int))), (1, I q), (0, (.slice (some ⟨Gv, 0, none⟩) l.length Cv)), (4, I 0)]) x.1 x.2) (fun x => (fun i q => l.length - i) x.1 x.2) (0, k) ?_ ⟨rfl, rfl, rfl, rfl, trivial⟩ ?_
    · exact ⟨by omega, by omega, B, by simpa [gen_hop] using S⟩
    · rintro ⟨i, q⟩ w8 hI
      try dsimp only at hI ⊢
      obtain ⟨hi, hq, B, S⟩ := hI
      refine w_seq ?_
      refine w_seq ?_
      refine w_region ?_
      refine t_move rfl ?_ rfl
      refine t_move rfl ?_ rfl
      refine t_lenx e_hop rfl rfl ?_ rfl
      refine t_lss rfl rfl ?_ rfl
      refine t_done ?_
      refine x_seq ?_
      refine w_if rfl ?_ ?_
      · intro hlt
        obtain ⟨x, hx⟩ : ∃ x, l[i]? = some x := getx (by omega)
        have hx0 := mid_at (gen_hop_len k i) hx
        have hl1 : (gen_hop k i ++ l.drop i).length = l.length := by rw [List.length_append, gen_hop_len, List.length_drop]; omega
        refine w_skip ?_
        refine x_seq ?_
        refine w_seq ?_
        refine w_block ?_
        refine w_seq ?_
        refine w_region ?_
        refine t_move rfl ?_ rfl
        refine t_move rfl ?_ rfl
        refine t_move rfl ?_ rfl
        refine t_idxx e_hop (k := i) rfl rfl (by first | rfl | omega) (by omega) rfl ?_ rfl
        refine t_fldx fb_hop_0 rfl rfl ?_ rfl
        refine t_stS (T := hopT) (j := 0) (x' := { x with ia := q }) S (by (try simp only [List.length_set]); first | omega | simp) sb_int rfl rfl hx0 rfl (by decide) rfl rfl so_hop_0 ?_
        intro w9 b10 S
        have B := B.trans b10
        have hq11 := set_at (y := { x with ia := q }) hx0
        refine t_done ?_
        refine x_seq ?_
        refine w_seq ?_
        refine w_region ?_
        refine t_move rfl ?_ rfl
        refine t_add rfl rfl (by omega) ?_ rfl
        refine t_assign rfl ?_ rfl
        refine t_done ?_
        refine x_seq ?_
        refine w_seq ?_
        refine w_region ?_
        refine t_move rfl ?_ rfl
        refine t_move rfl ?_ rfl
        refine t_move rfl ?_ rfl
        refine t_idxx e_hop (k := i) rfl rfl (by first | rfl | omega) (by omega) rfl ?_ rfl
        refine t_fldx fb_hop_1 rfl rfl ?_ rfl
        refine t_stS (T := hopT) (j := 1) (x' := { ({ x with ia := q }) with ing := q + 1 }) S (by (try simp only [List.length_set]); first | omega | simp) sb_int rfl rfl hq11 rfl (by decide) rfl rfl so_hop_1 ?_
        intro w12 b13 S
        have B := B.trans b13
        have hq14 := set_at (y := { ({ x with ia := q }) with ing := q + 1 }) hq11
        refine t_done ?_
        refine x_seq ?_
        refine w_seq ?_
        refine w_region ?_
        refine t_move rfl ?_ rfl
        refine t_add rfl rfl (by omega) ?_ rfl
        refine t_assign rfl ?_ rfl
        refine t_done ?_
        refine x_seq ?_
        refine w_seq ?_
        refine w_region ?_
        refine t_move rfl ?_ rfl
        refine t_move rfl ?_ rfl
        refine t_move rfl ?_ rfl
        refine t_idxx e_hop (k := i) rfl rfl (by first | rfl | omega) (by omega) rfl ?_ rfl
        refine t_fldx fb_hop_2 rfl rfl ?_ rfl
        refine t_stS (T := hopT) (j := 2) (x' := { ({ ({ x with ia := q }) with ing := q + 1 }) with eg := (q + 1) + 1 }) S (by (try simp only [List.length_set]); first | omega | simp) sb_int rfl rfl hq14 rfl (by decide) rfl rfl so_hop_2 ?_
        intro w15 b16 S
        have B := B.trans b16
        have hq17 := set_at (y := { ({ ({ x with ia := q }) with ing := q + 1 }) with eg := (q + 1) + 1 }) hq14
        refine t_done ?_
        refine x_seq ?_
        refine w_seq ?_
        refine w_region ?_
        refine t_move rfl ?_ rfl
        refine t_add rfl rfl (by omega) ?_ rfl
        refine t_assign rfl ?_ rfl
        refine t_done ?_
        refine x_seq ?_
        refine w_seq ?_
        refine w_region ?_
        refine t_move rfl ?_ rfl
        refine t_move rfl ?_ rfl
        refine t_move rfl ?_ rfl
        refine t_idxx e_hop (k := i) rfl rfl (by first | rfl | omega) (by omega) rfl ?_ rfl
        refine t_fldx fb_hop_3 rfl rfl ?_ rfl
        refine t_stS (T := hopT) (j := 3) (x' := { ({ ({ ({ x with ia := q }) with ing := q + 1 }) with eg := (q + 1) + 1 }) with exp := ((q + 1) + 1) + 1 }) S (by (try simp only [List.length_set]); first | omega | simp) sb_int rfl rfl hq17 rfl (by decide) rfl rfl so_hop_3 ?_
        intro w18 b19 S
        have B := B.trans b19
        have hq20 := set_at (y := { ({ ({ ({ x with ia := q }) with ing := q + 1 }) with eg := (q + 1) + 1 }) with exp := ((q + 1) + 1) + 1 }) hq17
        refine t_done ?_
        refine x_seq ?_
        refine w_seq ?_
        refine w_region ?_
        refine t_move rfl ?_ rfl
        refine t_add rfl rfl (by omega) ?_ rfl
        refine t_assign rfl ?_ rfl
        refine t_done ?_
        refine x_seq ?_
        refine w_seq ?_
        refine w_region ?_
        refine t_move rfl ?_ rfl
        refine t_move rfl ?_ rfl
        refine t_move rfl ?_ rfl
        refine t_idxx e_hop (k := i) rfl rfl (by first | rfl | omega) (by omega) rfl ?_ rfl
        refine t_fldx fb_hop_4 rfl rfl ?_ rfl
        refine t_stS (T := hopT) (j := 4) (x' := { ({ ({ ({ ({ x with ia := q }) with ing := q + 1 }) with eg := (q + 1) + 1 }) with exp := ((q + 1) + 1) + 1 }) with mac := (((q + 1) + 1) + 1) + 1 }) S (by (try simp only [List.length_set]); first | omega | simp) sb_int rfl rfl hq20 rfl (by decide) rfl rfl so_hop_4 ?_
        intro w21 b22 S
        have B := B.trans b22
        have hq23 := set_at (y := { ({ ({ ({ ({ x with ia := q }) with ing := q + 1 }) with eg := (q + 1) + 1 }) with exp := ((q + 1) + 1) + 1 }) with mac := (((q + 1) + 1) + 1) + 1 }) hq20
        refine t_done ?_
        refine x_seq ?_
        refine w_region ?_
        refine t_move rfl ?_ rfl
        refine t_add rfl rfl (by omega) ?_ rfl
        refine t_assign rfl ?_ rfl
        refine t_done ?_
        refine x_block_normal ?_
        refine x_seq ?_
        refine w_region ?_
        refine t_move rfl ?_ rfl
        refine t_add rfl rfl (by omega) ?_ rfl
        refine t_assign rfl ?_ rfl
        refine t_done ?_
        refine x_round (I := (fun x wq => (fun i q => i ≤ l.length ∧ q = k + 5 * i ∧ Below b w wq ∧ Sep b wq (slO hopT 93 (.slice (some ⟨Gv, 0, none⟩) l.length Cv) (gen_hop k i ++ l.drop i) :: os)) x.1 x.2)) (F := (fun x => (fun i q => [(5, I ((i : Int))), (1, I q), (0, (.slice (some ⟨Gv, 0, none⟩) l.length Cv)), (4, I 0)]) x.1 x.2)) (μ := (fun x => (fun i q => l.length - i) x.1 x.2)) (i + 1, ((((q + 1) + 1) + 1) + 1) + 1) ?_ (by exact ⟨rfl, rfl, rfl, rfl, trivial⟩) (by (try dsimp only); omega)
        try dsimp only
        refine ⟨by omega, by omega, B, ?_⟩
        have hm := mid_set (y := at_hop (k + 5 * i)) (gen_hop_len k i) hx
        rw [gen_hop_succ, ← hm, ← hq]
        (try simp only [List.set_set] at S)
        exact S
      · intro hge
        refine w_exit ?_
        refine x_then_exit ?_
        refine x_then_exit ?_
        refine x_block_exit ?_
        refine x_seq ?_
        refine w_seq ?_
        refine w_region ?_
        refine t_move rfl ?_ rfl
        refine t_assign rfl ?_ rfl
        refine t_done ?_
        refine x_seq ?_
        refine w_ret ?_
        refine x_ret1 rfl rfl ?_
        have : i = l.length := by omega
        subst this
        refine ⟨ret_int (by omega), ?_, B⟩
        simpa using S
theorem held_hop (n : Nat) (v : Value) (k : Int) (w : World) (h : SlR hopT w v (gen_hop k n)) (hn : n ≤ 1099511627776) (hk : 0 ≤ k ∧ k ≤ 1152921504606846976) :
    Calls Try.prog 154 #[v, I k] w fun e w' => e = .returned (I (k + 5 * n)) ∧ Below w.heap.size w w' := by
  have hlen := gen_hop_len k n
  obtain ⟨L, HL⟩ : ∃ L, L = gen_hop k n := ⟨_, rfl⟩
  rw [← HL] at h hlen
  have X0 := Below.refl w.heap.size w
  refine enter Try.func154 rfl Try.ntmps154 rfl ?_
  refine w_seq ?_
  refine w_region ?_
  have S := Sep.nil w
  have B := Below.refl w.heap.size w
  have Hb := Nat.le_refl w.heap.size
  refine t_assign rfl ?_ rfl
  refine t_done ?_
  refine x_seq ?_
  refine w_seq ?_
  refine w_seq ?_
  refine w_region ?_
  refine t_assign rfl ?_ rfl
  refine t_done ?_
  refine x_seq ?_
  refine w_block ?_
  refine w_loop (X := Nat × Int) (fun x wq => (fun i q => i ≤ n ∧ q = k + 5 * i ∧ Below w.heap.size w wq ∧ Sep w.heap.size wq []) x.1 x.2) (fun x => (fun i q => [(5, I ((i : Int))), (1, I q), (0, v)]) x.1 x.2) (fun x => (fun i q => n - i) x.1 x.2) (0, k) ?_ ⟨rfl, rfl, rfl, trivial⟩ ?_
  · exact ⟨by omega, by omega, B, S⟩
  · rintro ⟨i, q⟩ w24 hI
    try dsimp only at hI ⊢
    obtain ⟨hi, hq, B, S⟩ := hI
    refine w_seq ?_
    refine w_seq ?_
    refine w_region ?_
    refine t_move rfl ?_ rfl
    refine t_move rfl ?_ rfl
    refine t_len e_hop (by assumption) rfl rfl ?_ rfl
    refine t_lss rfl rfl ?_ rfl
    refine t_done ?_
    refine x_seq ?_
    refine w_if rfl ?_ ?_
    · intro hlt
      have hat := gen_hop_at k (n := n) (i := i) (by omega)
      rw [← HL] at hat
      refine w_skip ?_
      refine x_seq ?_
      refine w_seq ?_
      refine w_block ?_
      refine w_seq ?_
      refine w_seq ?_
      refine w_region ?_
      refine t_move rfl ?_ rfl
      refine t_move rfl ?_ rfl
      refine t_idx e_hop (k := i) (by assumption) hat B rfl rfl (by first | rfl | omega) ?_ rfl
      intro p14 hp14
      refine t_fld ln_hop_0 (by assumption) fb_hop_0 rfl ?_ rfl
      intro p15 hp15
      refine t_ldi (by assumption) ab_int B rfl ?_ rfl
      refine t_move rfl ?_ rfl
      refine t_neq rfl rfl ?_ rfl
      refine t_done ?_
      refine x_seq ?_
      refine w_if rfl ?_ ?_
      · intro hne
        exact absurd (by simp only [at_hop]; omega) hne
      · intro _
        refine w_skip ?_
        refine x_seq ?_
        refine w_seq ?_
        refine w_region ?_
        refine t_move rfl ?_ rfl
        refine t_add rfl rfl (by omega) ?_ rfl
        refine t_assign rfl ?_ rfl
        refine t_done ?_
        refine x_seq ?_
        refine w_seq ?_
        refine w_seq ?_
        refine w_region ?_
        refine t_move rfl ?_ rfl
        refine t_move rfl ?_ rfl
        refine t_idx e_hop (k := i) (by assumption) hat B rfl rfl (by first | rfl | omega) ?_ rfl
        intro p23 hp23
        refine t_fld ln_hop_1 (by assumption) fb_hop_1 rfl ?_ rfl
        intro p24 hp24
        refine t_ldi (by assumption) ab_int B rfl ?_ rfl
        refine t_move rfl ?_ rfl
        refine t_neq rfl rfl ?_ rfl
        refine t_done ?_
        refine x_seq ?_
        refine w_if rfl ?_ ?_
        · intro hne
          exact absurd (by simp only [at_hop]; omega) hne
        · intro _
          refine w_skip ?_
          refine x_seq ?_
          refine w_seq ?_
          refine w_region ?_
          refine t_move rfl ?_ rfl
          refine t_add rfl rfl (by omega) ?_ rfl
          refine t_assign rfl ?_ rfl
          refine t_done ?_
          refine x_seq ?_
          refine w_seq ?_
          refine w_seq ?_
          refine w_region ?_
          refine t_move rfl ?_ rfl
          refine t_move rfl ?_ rfl
          refine t_idx e_hop (k := i) (by assumption) hat B rfl rfl (by first | rfl | omega) ?_ rfl
          intro p32 hp32
          refine t_fld ln_hop_2 (by assumption) fb_hop_2 rfl ?_ rfl
          intro p33 hp33
          refine t_ldi (by assumption) ab_int B rfl ?_ rfl
          refine t_move rfl ?_ rfl
          refine t_neq rfl rfl ?_ rfl
          refine t_done ?_
          refine x_seq ?_
          refine w_if rfl ?_ ?_
          · intro hne
            exact absurd (by simp only [at_hop]; omega) hne
          · intro _
            refine w_skip ?_
            refine x_seq ?_
            refine w_seq ?_
            refine w_region ?_
            refine t_move rfl ?_ rfl
            refine t_add rfl rfl (by omega) ?_ rfl
            refine t_assign rfl ?_ rfl
            refine t_done ?_
            refine x_seq ?_
            refine w_seq ?_
            refine w_seq ?_
            refine w_region ?_
            refine t_move rfl ?_ rfl
            refine t_move rfl ?_ rfl
            refine t_idx e_hop (k := i) (by assumption) hat B rfl rfl (by first | rfl | omega) ?_ rfl
            intro p41 hp41
            refine t_fld ln_hop_3 (by assumption) fb_hop_3 rfl ?_ rfl
            intro p42 hp42
            refine t_ldi (by assumption) ab_int B rfl ?_ rfl
            refine t_move rfl ?_ rfl
            refine t_neq rfl rfl ?_ rfl
            refine t_done ?_
            refine x_seq ?_
            refine w_if rfl ?_ ?_
            · intro hne
              exact absurd (by simp only [at_hop]; omega) hne
            · intro _
              refine w_skip ?_
              refine x_seq ?_
              refine w_seq ?_
              refine w_region ?_
              refine t_move rfl ?_ rfl
              refine t_add rfl rfl (by omega) ?_ rfl
              refine t_assign rfl ?_ rfl
              refine t_done ?_
              refine x_seq ?_
              refine w_seq ?_
              refine w_seq ?_
              refine w_region ?_
              refine t_move rfl ?_ rfl
              refine t_move rfl ?_ rfl
              refine t_idx e_hop (k := i) (by assumption) hat B rfl rfl (by first | rfl | omega) ?_ rfl
              intro p50 hp50
              refine t_fld ln_hop_4 (by assumption) fb_hop_4 rfl ?_ rfl
              intro p51 hp51
              refine t_ldi (by assumption) ab_int B rfl ?_ rfl
              refine t_move rfl ?_ rfl
              refine t_neq rfl rfl ?_ rfl
              refine t_done ?_
              refine x_seq ?_
              refine w_if rfl ?_ ?_
              · intro hne
                exact absurd (by simp only [at_hop]; omega) hne
              · intro _
                refine w_skip ?_
                refine x_seq ?_
                refine w_region ?_
                refine t_move rfl ?_ rfl
                refine t_add rfl rfl (by omega) ?_ rfl
                refine t_assign rfl ?_ rfl
                refine t_done ?_
                refine x_block_normal ?_
                refine x_seq ?_
                refine w_region ?_
                refine t_move rfl ?_ rfl
                refine t_add rfl rfl (by omega) ?_ rfl
                refine t_assign rfl ?_ rfl
                refine t_done ?_
                refine x_round (I := (fun x wq => (fun i q => i ≤ n ∧ q = k + 5 * i ∧ Below w.heap.size w wq ∧ Sep w.heap.size wq []) x.1 x.2)) (F := (fun x => (fun i q => [(5, I ((i : Int))), (1, I q), (0, v)]) x.1 x.2)) (μ := (fun x => (fun i q => n - i) x.1 x.2)) (i + 1, ((((q + 1) + 1) + 1) + 1) + 1) ?_ (by exact ⟨rfl, rfl, rfl, trivial⟩) (by (try dsimp only); omega)
                try dsimp only
                exact ⟨by omega, by omega, B, S⟩
    · intro hge
      refine w_exit ?_
      refine x_then_exit ?_
      refine x_then_exit ?_
      refine x_block_exit ?_
      refine x_seq ?_
      refine w_seq ?_
      refine w_region ?_
      refine t_move rfl ?_ rfl
      refine t_assign rfl ?_ rfl
      refine t_done ?_
      refine x_seq ?_
      refine w_ret ?_
      refine x_ret1 rfl rfl ?_
      have : i = n := by omega
      subst this
      exact ⟨ret_int (by omega), ext_trans X0 B⟩
def at_step (k : Int) : Stp := ⟨k, k + 1, k + 1 + 1⟩
/-- n elements that bear the numbers from k on. -/
def gen_step (k : Int) (n : Nat) : List Stp := (List.range n).map fun (i : Nat) => at_step (k + 3 * (i : Int))
theorem gen_step_len (k : Int) (n : Nat) : (gen_step k n).length = n := by simp [gen_step]
theorem gen_step_succ (k : Int) (n : Nat) : gen_step k (n + 1) = gen_step k n ++ [at_step (k + 3 * n)] := gen_succ _ n
theorem gen_step_at (k : Int) {n i : Nat} (h : i < n) : (gen_step k n)[i]? = some (at_step (k + 3 * i)) := gen_at _ h
def at_link (k : Int) : Lnk := ⟨k, k + 1, k + 1 + 1, k + 1 + 1 + 1, k + 1 + 1 + 1 + 1⟩
/-- n elements that bear the numbers from k on. -/
def gen_link (k : Int) (n : Nat) : List Lnk := (List.range n).map fun (i : Nat) => at_link (k + 5 * (i : Int))
theorem gen_link_len (k : Int) (n : Nat) : (gen_link k n).length = n := by simp [gen_link]
theorem gen_link_succ (k : Int) (n : Nat) : gen_link k (n + 1) = gen_link k n ++ [at_link (k + 5 * n)] := gen_succ _ n
theorem gen_link_at (k : Int) {n i : Nat} (h : i < n) : (gen_link k n)[i]? = some (at_link (k + 5 * i)) := gen_at _ h

end Go.Proofs.Ytfgobdejlfojiaa
