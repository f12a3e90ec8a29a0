/- Reading numbers out of bytes: ReadVarint, DecodeInts, of the program and of the reference. -/
import Derived.Test.YtfgobdejlfojiaaPlainR
namespace Go.Proofs.Ytfgobdejlfojiaa
open Go.RowKit
set_option linter.unusedVariables false
set_option maxRecDepth 20000

section
variable {P : Program} {n : Nat} {ops : Array Oper} {Q : Exit → Act → World → Prop} {L : Frm} {w : World} {m : Md} {r : IT} {d : Nat} {ty : TypeId} {pos : String} {af : Array Edge}
theorem pow128 {k : Nat} (h : k < 6) : (1 : Int) ≤ 128 ^ k ∧ (128 : Int) ^ k ≤ 34359738368 := by
  rcases k with _ | _ | _ | _ | _ | _ | k
  all_goals first | omega | (constructor <;> simp)
theorem mul128 {k : Nat} {c : Int} (h : k < 6) (h0 : 0 ≤ c) (h1 : c ≤ 127) : 0 ≤ c * 128 ^ k ∧ c * 128 ^ k ≤ 127 * 128 ^ k := by
  have hp := (pow128 h).1
  exact ⟨Int.mul_nonneg h0 (by omega), Int.mul_le_mul_of_nonneg_right h1 (by omega)⟩
theorem t_conv8 {s t : TypeId} {x : Operand} {sd : TypeDesc} {a : UInt8} (hs : P.underlying s = some sd) (ht : P.underlying t = some (.int .i64)) (hx : ev L x = some (.int .u8 (a.toNat : Int))) (k : WT P n ops Q r ((d, I (a.toNat : Int)) :: L) w) (hn : Nat.blt d n = true) : WT P n ops Q (.st m ⟨some d, .convert s t x, ty, pos, af, none⟩ r) L w := by
  have h := a.toNat_lt
  have hw : IntKind.i64.wrap (a.toNat : Int) = a.toNat := wr64 (by omega)
  exact t_read (fun e ha _ _ _ w' _ => by simp [execOp, ha.ev hx, convert, run_underlying hs, run_underlying ht, Conv.intToInt, hw]) k hn
theorem two7 (k : Nat) : (2 : Int) ^ (7 * k) = 128 ^ k := by rw [Int.pow_mul]; rfl
theorem t_shl7 {k : Nat} {x y : Operand} {t t' : TypeId} {kd : IntKind} {a c : Int} (hx : ev L x = some (I a)) (hy : ev L y = some (.int kd c)) (hc : c = 7 * (k : Int)) (hk : k < 6) (ha : 0 ≤ a ∧ a ≤ 127) (kk : WT P n ops Q r ((d, I (a * 128 ^ k)) :: L) w) (hn : Nat.blt d n = true) : WT P n ops Q (.st m ⟨some d, .binOp .shl t x y t', ty, pos, af, none⟩ r) L w := by
  have h1 := mul128 hk ha.1 ha.2
  have h2 := pow128 hk
  have hw : IntKind.i64.wrap (a * 128 ^ k) = a * 128 ^ k := wr64 (by omega)
  refine t_read (fun e ha' _ _ _ w' _ => ?_) kk hn
  have e1 : c.toNat = 7 * k := by omega
  simp [execOp, ha'.ev hx, ha'.ev hy, eqGuard, binOp, e1, two7, hw]
theorem t_or7 {k : Nat} {c : Int} {x y : Operand} {t t' : TypeId} {a : Int} (hx : ev L x = some (I a)) (hy : ev L y = some (I (c * 128 ^ k))) (ha : 0 ≤ a ∧ a < 128 ^ k) (hc : 0 ≤ c ∧ c ≤ 127) (hk : k < 6) (kk : WT P n ops Q r ((d, I (a + c * 128 ^ k)) :: L) w) (hn : Nat.blt d n = true) : WT P n ops Q (.st m ⟨some d, .binOp .or t x y t', ty, pos, af, none⟩ r) L w := by
  have h1 := mul128 hk hc.1 hc.2
  have h2 := pow128 hk
  have e1 : bits .or .i64 a (c * 128 ^ k) = a + c * 128 ^ k := by
    have hcm : bits .or .i64 a (c * 128 ^ k) = bits .or .i64 (c * 128 ^ k) a := by simp only [bits, BitVec.or_comm]
    rw [hcm, bits_join .i64 62 (by decide) (fun n h0 h1 => by rw [IntKind.wrap_i64]; omega) (7 * k) (c * 128 ^ k) a h1.1 (by rw [two7]; exact Int.mul_emod_left _ _) (by omega) ha.1 (by rw [two7]; exact ha.2) (by omega)]
    omega
  exact t_read (fun e ha' _ _ _ w' _ => by simp [execOp, ha'.ev hx, ha'.ev hy, eqGuard, binOp, intBits_or, e1]) kk hn
end

theorem rv3_true {o : Option (Int × Nat)} {n j : Int} (h : rv3 o = (n, j, true)) : ∃ m : Nat, o = some (n, m) ∧ j = m := by
  rcases o with _ | ⟨a, m⟩
  · cases h
  · cases h; exact ⟨m, rfl, rfl⟩
theorem rv3_false {o : Option (Int × Nat)} {n j : Int} (h : rv3 o = (n, j, false)) : o = none := by
  rcases o with _ | ⟨a, m⟩
  · rfl
  · cases h
theorem ret_rv {o : Option (Int × Nat)} {n j a c : Int} {ok d : Bool} (hr : rv3 o = (n, j, ok)) (h : rv3 o = (a, c, d)) : Ending.returned (.tuple #[I a, I c, .bool d]) = .returned (.tuple #[I n, I j, .bool ok]) := by
  rw [h] at hr
  cases hr
  rfl

theorem impl_ReadVarint (b : List UInt8) (v : Value) (i : Int) {n0 j0 : Int} {ok0 : Bool} (w : World) (h : SlR byteT w v b) (hz : b.length ≤ 1048576) (hi : i ≤ 9223372036854775807) (hr : rv3 (readVI b i) = (n0, j0, ok0)) : Calls Try.prog 95 #[v, I i] w fun e w' => e = .returned (.tuple #[I n0, I j0, .bool ok0]) ∧ Below w.heap.size w w' := by
  have X0 := Below.refl w.heap.size w
  refine enter Try.func95 rfl Try.ntmps95 rfl ?_
  refine w_seq ?_
  refine w_region ?_
  have S := Sep.nil w
  have B := Below.refl w.heap.size w
  have Hb := Nat.le_refl w.heap.size
  refine t_assign rfl ?_ rfl
  refine t_assign rfl ?_ rfl
  refine t_assign rfl ?_ rfl
  refine t_done ?_
  refine x_seq ?_
  refine w_seq ?_
  refine w_seq ?_
  refine w_region ?_
  refine t_move rfl ?_ rfl
  refine t_lss rfl rfl ?_ rfl
  refine t_done ?_
  refine x_seq ?_
  refine w_if rfl ?_ ?_
  · intro h1
    refine w_seq ?_
    refine w_region ?_
    refine t_assign rfl ?_ rfl
    refine t_assign rfl ?_ rfl
    refine t_assign rfl ?_ rfl
    refine t_done ?_
    refine x_seq ?_
    refine w_ret ?_
    refine x_then_ret ?_
    refine x_ret3 rfl rfl rfl rfl ?_
    exact ⟨ret_rv hr (by rw [readVI, if_neg (by omega)]; rfl), X0⟩
  intro h1
  obtain ⟨i0, rfl⟩ : ∃ i0 : Nat, i = i0 := ⟨i.toNat, by omega⟩
  have hrv : readVI b (i0 : Int) = rvK b 6 0 0 i0 := by rw [readVI, if_pos (by omega)]; rfl
  refine w_skip ?_
  refine x_seq ?_
  refine w_seq ?_
  refine w_region ?_
  refine t_assign rfl ?_ rfl
  refine t_done ?_
  refine x_seq ?_
  refine w_seq ?_
  refine w_seq ?_
  refine w_region ?_
  refine t_assign rfl ?_ rfl
  refine t_done ?_
  refine x_seq ?_
  refine w_block ?_
  refine w_loop (X := Nat × Nat × Int) (fun x wq => (fun k i n => k ≤ 6 ∧ 0 ≤ n ∧ n < 128 ^ k ∧ rvK b (6 - k) k n i = rvK b 6 0 0 i0 ∧ Below w.heap.size w wq ∧ Sep w.heap.size wq []) x.1 x.2.1 x.2.2) (fun x => (fun k i n => [(8, I ((k : Int))), (1, I ((i : Int))), (7, I n), (0, v)]) x.1 x.2.1 x.2.2) (fun x => (fun k i n => 6 - k) x.1 x.2.1 x.2.2) (0, i0, 0) ?_ ⟨rfl, rfl, rfl, rfl, trivial⟩ ?_
  · exact ⟨by omega, by simp, by simp, rfl, B, S⟩
  · rintro ⟨k, i, n⟩ w1 hI
    try dsimp only at hI ⊢
    obtain ⟨hk, hn0, hn1, hq, B, S⟩ := hI
    refine w_seq ?_
    refine w_seq ?_
    refine w_region ?_
    refine t_move rfl ?_ rfl
    refine t_lss rfl rfl ?_ rfl
    refine t_move rfl ?_ rfl
    refine t_partp (t := 14) rfl ?_ ?_
    · intro hk6
      refine t_on rfl rfl ?_
      refine t_move rfl ?_ rfl
      refine t_on rfl rfl ?_
      refine t_move rfl ?_ rfl
      refine t_on rfl rfl ?_
      refine t_len e_byte (by assumption) rfl rfl ?_ rfl
      refine t_on rfl rfl ?_
      refine t_lss rfl rfl ?_ rfl
      refine t_pickt rfl rfl ?_ rfl
      refine t_done ?_
      refine x_seq ?_
      refine w_if rfl ?_ ?_
      · intro hlt
        obtain ⟨x, hx⟩ : ∃ x, b[i]? = some x := getx (by omega)
        have hk' : k < 6 := by omega
        have hb8 : x.toNat < 256 := x.toNat_lt
        have hm := mul128 (c := (x.toNat : Int) % 128) hk' (by omega) (by omega)
        have hp := pow128 hk'
        have hf : 6 - k = (6 - (k + 1)) + 1 := by omega
        have hp7 : (128 : Int) ^ (k + 1) = 128 ^ k * 128 := Int.pow_succ ..
        rw [hf] at hq
        refine w_skip ?_
        refine x_seq ?_
        refine w_seq ?_
        refine w_block ?_
        refine w_seq ?_
        refine w_region ?_
        refine t_move rfl ?_ rfl
        refine t_move rfl ?_ rfl
        refine t_idx e_byte (k := i) (by assumption) hx B rfl rfl (by first | rfl | omega) ?_ rfl
        intro p24 hp24
        refine t_ldu (by assumption) ab_byte B rfl ?_ rfl
        refine t_conv8 Try.underlying5 Try.underlying3 rfl ?_ rfl
        refine t_assign rfl ?_ rfl
        refine t_done ?_
        refine x_seq ?_
        refine w_seq ?_
        refine w_region ?_
        refine t_move rfl ?_ rfl
        refine t_add rfl rfl (by omega) ?_ rfl
        refine t_assign rfl ?_ rfl
        refine t_done ?_
        refine x_seq ?_
        refine w_seq ?_
        refine w_region ?_
        refine t_move rfl ?_ rfl
        refine t_move rfl ?_ rfl
        refine t_rem rfl rfl (by omega) ?_ rfl
        refine t_move rfl ?_ rfl
        refine t_mul rfl rfl (by omega) ?_ rfl
        refine t_conv Try.underlying3 Try.underlying160 rfl ?_ rfl
        refine t_shl7 (k := k) rfl rfl (by first | rfl | omega | (rw [IntKind.wrap_u64]; omega)) (by omega) (by omega) ?_ rfl
        refine t_add rfl rfl (by omega) ?_ rfl
        refine t_assign rfl ?_ rfl
        refine t_done ?_
        refine x_seq ?_
        refine w_seq ?_
        refine w_region ?_
        refine t_move rfl ?_ rfl
        refine t_lss rfl rfl ?_ rfl
        refine t_done ?_
        refine x_seq ?_
        refine w_if rfl ?_ ?_
        · intro hs
          have hs' : x.toNat < 128 := by omega
          refine w_seq ?_
          refine w_seq ?_
          refine w_region ?_
          refine t_move rfl ?_ rfl
          refine t_eql rfl rfl ?_ rfl
          refine t_move rfl ?_ rfl
          refine t_partp (t := 41) rfl ?_ ?_
          · intro hx0
            refine t_on rfl rfl ?_
            refine t_move rfl ?_ rfl
            refine t_on rfl rfl ?_
            refine t_gtr rfl rfl ?_ rfl
            refine t_pickt rfl rfl ?_ rfl
            refine t_move rfl ?_ rfl
            refine t_partp (t := 45) rfl ?_ ?_
            · intro hbad
              refine t_off rfl rfl rfl ?_ rfl
              refine t_off rfl rfl rfl ?_ rfl
              refine t_pickt rfl rfl ?_ rfl
              refine t_done ?_
              refine x_seq ?_
              refine w_yes rfl ?_
              refine w_seq ?_
              refine w_region ?_
              refine t_assign rfl ?_ rfl
              refine t_assign rfl ?_ rfl
              refine t_assign rfl ?_ rfl
              refine t_done ?_
              refine x_seq ?_
              refine w_ret ?_
              refine x_then_ret ?_
              refine x_block_ret ?_
              refine x_then_ret ?_
              refine x_then_ret ?_
              refine x_block_ret ?_
              refine x_then_ret ?_
              refine x_ret3 rfl rfl rfl rfl ?_
              rw [rvK_bad hx hs' (.inl ⟨by omega, by omega⟩)] at hq
              exact ⟨ret_rv hr (by rw [hrv, ← hq]; rfl), ext_trans X0 B⟩
            · intro hbad
              refine t_on rfl rfl ?_
              refine t_move rfl ?_ rfl
              refine t_on rfl rfl ?_
              refine t_gtr rfl rfl ?_ rfl
              refine t_pickf rfl rfl ?_ rfl
              refine t_done ?_
              refine x_seq ?_
              refine w_if rfl ?_ ?_
              · intro hbig
                refine w_seq ?_
                refine w_region ?_
                refine t_assign rfl ?_ rfl
                refine t_assign rfl ?_ rfl
                refine t_assign rfl ?_ rfl
                refine t_done ?_
                refine x_seq ?_
                refine w_ret ?_
                refine x_then_ret ?_
                refine x_block_ret ?_
                refine x_then_ret ?_
                refine x_then_ret ?_
                refine x_block_ret ?_
                refine x_then_ret ?_
                refine x_ret3 rfl rfl rfl rfl ?_
                rw [rvK_bad hx hs' (.inr (by omega))] at hq
                exact ⟨ret_rv hr (by rw [hrv, ← hq]; rfl), ext_trans X0 B⟩
              · intro hbig
                refine w_skip ?_
                refine x_seq ?_
                refine w_seq ?_
                refine w_region ?_
                refine t_move rfl ?_ rfl
                refine t_move rfl ?_ rfl
                refine t_assign rfl ?_ rfl
                refine t_assign rfl ?_ rfl
                refine t_assign rfl ?_ rfl
                refine t_done ?_
                refine x_seq ?_
                refine w_ret ?_
                refine x_block_ret ?_
                refine x_then_ret ?_
                refine x_then_ret ?_
                refine x_block_ret ?_
                refine x_then_ret ?_
                refine x_ret3 rfl rfl rfl rfl ?_
                rw [rvK_last hx hs' (by omega)] at hq
                exact ⟨ret_rv hr (by rw [hrv, ← hq]; rfl), ext_trans X0 B⟩
          · intro hx0
            refine t_off rfl rfl rfl ?_ rfl
            refine t_off rfl rfl rfl ?_ rfl
            refine t_pickf rfl rfl ?_ rfl
            refine t_move rfl ?_ rfl
            refine t_on rfl rfl ?_
            refine t_move rfl ?_ rfl
            refine t_on rfl rfl ?_
            refine t_gtr rfl rfl ?_ rfl
            refine t_pickf rfl rfl ?_ rfl
            refine t_done ?_
            refine x_seq ?_
            refine w_if rfl ?_ ?_
            · intro hbig
              refine w_seq ?_
              refine w_region ?_
              refine t_assign rfl ?_ rfl
              refine t_assign rfl ?_ rfl
              refine t_assign rfl ?_ rfl
              refine t_done ?_
              refine x_seq ?_
              refine w_ret ?_
              refine x_then_ret ?_
              refine x_block_ret ?_
              refine x_then_ret ?_
              refine x_then_ret ?_
              refine x_block_ret ?_
              refine x_then_ret ?_
              refine x_ret3 rfl rfl rfl rfl ?_
              rw [rvK_bad hx hs' (.inr (by omega))] at hq
              exact ⟨ret_rv hr (by rw [hrv, ← hq]; rfl), ext_trans X0 B⟩
            · intro hbig
              refine w_skip ?_
              refine x_seq ?_
              refine w_seq ?_
              refine w_region ?_
              refine t_move rfl ?_ rfl
              refine t_move rfl ?_ rfl
              refine t_assign rfl ?_ rfl
              refine t_assign rfl ?_ rfl
              refine t_assign rfl ?_ rfl
              refine t_done ?_
              refine x_seq ?_
              refine w_ret ?_
              refine x_block_ret ?_
              refine x_then_ret ?_
              refine x_then_ret ?_
              refine x_block_ret ?_
              refine x_then_ret ?_
              refine x_ret3 rfl rfl rfl rfl ?_
              rw [rvK_last hx hs' (by omega)] at hq
              exact ⟨ret_rv hr (by rw [hrv, ← hq]; rfl), ext_trans X0 B⟩
        · intro hs
          refine w_skip ?_
          refine x_block_normal ?_
          refine x_seq ?_
          refine w_region ?_
          refine t_move rfl ?_ rfl
          refine t_add rfl rfl (by omega) ?_ rfl
          refine t_assign rfl ?_ rfl
          refine t_done ?_
          refine x_round (I := (fun x wq => (fun k i n => k ≤ 6 ∧ 0 ≤ n ∧ n < 128 ^ k ∧ rvK b (6 - k) k n i = rvK b 6 0 0 i0 ∧ Below w.heap.size w wq ∧ Sep w.heap.size wq []) x.1 x.2.1 x.2.2)) (F := (fun x => (fun k i n => [(8, I ((k : Int))), (1, I ((i : Int))), (7, I n), (0, v)]) x.1 x.2.1 x.2.2)) (μ := (fun x => (fun k i n => 6 - k) x.1 x.2.1 x.2.2)) (k + 1, i + 1, n + (((x.toNat : Int) % 128) * 128 ^ k)) ?_ (by exact ⟨rfl, rfl, rfl, rfl, trivial⟩) (by (try dsimp only); omega)
          try dsimp only
          rw [rvK_more hx (by omega)] at hq
          exact ⟨by omega, by omega, by omega, hq, B, S⟩
      · intro hge
        refine w_exit ?_
        refine x_then_exit ?_
        refine x_then_exit ?_
        refine x_block_exit ?_
        refine x_seq ?_
        refine w_seq ?_
        refine w_region ?_
        refine t_assign rfl ?_ rfl
        refine t_assign rfl ?_ rfl
        refine t_assign rfl ?_ rfl
        refine t_done ?_
        refine x_seq ?_
        refine w_ret ?_
        refine x_ret3 rfl rfl rfl rfl ?_
        rw [rvK_end (by omega)] at hq
        exact ⟨ret_rv hr (by rw [hrv, ← hq]; rfl), ext_trans X0 B⟩
    · intro hk6
      refine t_off rfl rfl rfl ?_ rfl
      refine t_off rfl rfl rfl ?_ rfl
      refine t_off rfl rfl rfl ?_ rfl
      refine t_off rfl rfl rfl ?_ rfl
      refine t_pickf rfl rfl ?_ rfl
      refine t_done ?_
      refine x_seq ?_
      refine w_no rfl ?_
      refine w_exit ?_
      refine x_then_exit ?_
      refine x_then_exit ?_
      refine x_block_exit ?_
      refine x_seq ?_
      refine w_seq ?_
      refine w_region ?_
      refine t_assign rfl ?_ rfl
      refine t_assign rfl ?_ rfl
      refine t_assign rfl ?_ rfl
      refine t_done ?_
      refine x_seq ?_
      refine w_ret ?_
      refine x_ret3 rfl rfl rfl rfl ?_
      have : 6 - k = 0 := by omega
      rw [this] at hq
      exact ⟨ret_rv hr (by rw [hrv, ← hq]; rfl), ext_trans X0 B⟩
theorem spec_ReadVarint (b : List UInt8) (v : Value) (i : Int) {n0 j0 : Int} {ok0 : Bool} (w : World) (h : SlR byteT w v b) (hz : b.length ≤ 1048576) (hi : i ≤ 9223372036854775807) (hr : rv3 (readVI b i) = (n0, j0, ok0)) : Calls Try.prog 92 #[v, I i] w fun e w' => e = .returned (.tuple #[I n0, I j0, .bool ok0]) ∧ Below w.heap.size w w' := by
  have X0 := Below.refl w.heap.size w
  refine enter Try.func92 rfl Try.ntmps92 rfl ?_
  refine w_seq ?_
  refine w_region ?_
  have S := Sep.nil w
  have B := Below.refl w.heap.size w
  have Hb := Nat.le_refl w.heap.size
  refine t_assign rfl ?_ rfl
  refine t_assign rfl ?_ rfl
  refine t_assign rfl ?_ rfl
  refine t_done ?_
  refine x_seq ?_
  refine w_seq ?_
  refine w_region ?_
  refine t_assign rfl ?_ rfl
  refine t_done ?_
  refine x_seq ?_
  refine w_seq ?_
  refine w_seq ?_
  refine w_region ?_
  refine t_assign rfl ?_ rfl
  refine t_done ?_
  refine x_seq ?_
  refine w_block ?_
  refine w_loop (X := Nat × Int) (fun x wq => (fun k n => k ≤ 6 ∧ (k = 0 ∨ 0 ≤ i) ∧ 0 ≤ n ∧ n < 128 ^ k ∧ (0 ≤ i → rvK b (6 - k) k n (i.toNat + k) = readVI b i) ∧ Below w.heap.size w wq ∧ Sep w.heap.size wq []) x.1 x.2) (fun x => (fun k n => [(8, I ((k : Int))), (7, I n), (0, v), (1, I i)]) x.1 x.2) (fun x => (fun k n => 6 - k) x.1 x.2) (0, 0) ?_ ⟨rfl, rfl, rfl, rfl, trivial⟩ ?_
  · exact ⟨by omega, .inl rfl, by simp, by simp, fun h0 => by rw [readVI, if_pos h0]; rfl, B, S⟩
  · rintro ⟨k, n⟩ w2 hI
    try dsimp only at hI ⊢
    obtain ⟨hk, hki, hn0, hn1, hq, B, S⟩ := hI
    refine w_seq ?_
    refine w_seq ?_
    refine w_region ?_
    refine t_move rfl ?_ rfl
    refine t_lss rfl rfl ?_ rfl
    refine t_done ?_
    refine x_seq ?_
    refine w_if rfl ?_ ?_
    · intro hk6
      refine w_skip ?_
      refine x_seq ?_
      refine w_seq ?_
      refine w_block ?_
      refine w_seq ?_
      refine w_seq ?_
      refine w_region ?_
      refine t_move rfl ?_ rfl
      refine t_lss rfl rfl ?_ rfl
      refine t_move rfl ?_ rfl
      refine t_partp (t := 16) rfl ?_ ?_
      · intro hneg
        refine t_off rfl rfl rfl ?_ rfl
        refine t_off rfl rfl rfl ?_ rfl
        refine t_off rfl rfl rfl ?_ rfl
        refine t_off rfl rfl rfl ?_ rfl
        refine t_off rfl rfl rfl ?_ rfl
        refine t_off rfl rfl rfl ?_ rfl
        refine t_pickt rfl rfl ?_ rfl
        refine t_done ?_
        refine x_seq ?_
        refine w_yes rfl ?_
        refine w_seq ?_
        refine w_region ?_
        refine t_assign rfl ?_ rfl
        refine t_assign rfl ?_ rfl
        refine t_assign rfl ?_ rfl
        refine t_done ?_
        refine x_seq ?_
        refine w_ret ?_
        refine x_then_ret ?_
        refine x_block_ret ?_
        refine x_then_ret ?_
        refine x_then_ret ?_
        refine x_block_ret ?_
        refine x_then_ret ?_
        refine x_ret3 rfl rfl rfl rfl ?_
        exact ⟨ret_rv hr (by rw [readVI, if_neg (by omega)]; rfl), ext_trans X0 B⟩
      · intro hneg
        have hq := hq (by omega)
        refine t_on rfl rfl ?_
        refine t_move rfl ?_ rfl
        refine t_on rfl rfl ?_
        refine t_move rfl ?_ rfl
        refine t_on rfl rfl ?_
        refine t_len e_byte (by assumption) rfl rfl ?_ rfl
        refine t_on rfl rfl ?_
        refine t_move rfl ?_ rfl
        refine t_on rfl rfl ?_
        refine t_sub rfl rfl (by omega) ?_ rfl
        refine t_on rfl rfl ?_
        refine t_geq rfl rfl ?_ rfl
        refine t_pickf rfl rfl ?_ rfl
        refine t_done ?_
        refine x_seq ?_
        refine w_if rfl ?_ ?_
        · intro hge
          refine w_seq ?_
          refine w_region ?_
          refine t_assign rfl ?_ rfl
          refine t_assign rfl ?_ rfl
          refine t_assign rfl ?_ rfl
          refine t_done ?_
          refine x_seq ?_
          refine w_ret ?_
          refine x_then_ret ?_
          refine x_block_ret ?_
          refine x_then_ret ?_
          refine x_then_ret ?_
          refine x_block_ret ?_
          refine x_then_ret ?_
          refine x_ret3 rfl rfl rfl rfl ?_
          rw [rvK_end (by omega)] at hq
          exact ⟨ret_rv hr (by rw [← hq]; rfl), ext_trans X0 B⟩
        · intro hlt
          obtain ⟨x, hx⟩ : ∃ x, b[i.toNat + k]? = some x := getx (by omega)
          have hk' : k < 6 := by omega
          have hb8 : x.toNat < 256 := x.toNat_lt
          have hm := mul128 (c := (x.toNat : Int) % 128) hk' (by omega) (by omega)
          have hp := pow128 hk'
          have hf : 6 - k = (6 - (k + 1)) + 1 := by omega
          have hp7 : (128 : Int) ^ (k + 1) = 128 ^ k * 128 := Int.pow_succ ..
          rw [hf] at hq
          refine w_skip ?_
          refine x_seq ?_
          refine w_seq ?_
          refine w_region ?_
          refine t_move rfl ?_ rfl
          refine t_move rfl ?_ rfl
          refine t_move rfl ?_ rfl
          refine t_add rfl rfl (by omega) ?_ rfl
          refine t_idx e_byte (k := (i.toNat + k)) (by assumption) hx B rfl rfl (by first | rfl | omega) ?_ rfl
          intro p28 hp28
          refine t_ldu (by assumption) ab_byte B rfl ?_ rfl
          refine t_conv8 Try.underlying5 Try.underlying3 rfl ?_ rfl
          refine t_assign rfl ?_ rfl
          refine t_done ?_
          refine x_seq ?_
          refine w_seq ?_
          refine w_region ?_
          refine t_move rfl ?_ rfl
          refine t_move rfl ?_ rfl
          refine t_and127 rfl rfl ?_ rfl
          refine t_move rfl ?_ rfl
          refine t_mul rfl rfl (by omega) ?_ rfl
          refine t_shl7 (k := k) rfl rfl (by first | rfl | omega | (rw [IntKind.wrap_u64]; omega)) (by omega) (by omega) ?_ rfl
          refine t_or7 (k := k) (c := (x.toNat : Int) % 128) rfl rfl (by omega) (by omega) (by omega) ?_ rfl
          refine t_assign rfl ?_ rfl
          refine t_done ?_
          refine x_seq ?_
          refine w_seq ?_
          refine w_region ?_
          refine t_move rfl ?_ rfl
          refine t_lss rfl rfl ?_ rfl
          refine t_done ?_
          refine x_seq ?_
          refine w_if rfl ?_ ?_
          · intro hs
            have hs' : x.toNat < 128 := by omega
            refine w_seq ?_
            refine w_seq ?_
            refine w_region ?_
            refine t_move rfl ?_ rfl
            refine t_eql rfl rfl ?_ rfl
            refine t_move rfl ?_ rfl
            refine t_partp (t := 42) rfl ?_ ?_
            · intro hx0
              refine t_on rfl rfl ?_
              refine t_move rfl ?_ rfl
              refine t_on rfl rfl ?_
              refine t_gtr rfl rfl ?_ rfl
              refine t_pickt rfl rfl ?_ rfl
              refine t_move rfl ?_ rfl
              refine t_partp (t := 46) rfl ?_ ?_
              · intro hbad
                refine t_off rfl rfl rfl ?_ rfl
                refine t_off rfl rfl rfl ?_ rfl
                refine t_pickt rfl rfl ?_ rfl
                refine t_done ?_
                refine x_seq ?_
                refine w_yes rfl ?_
                refine w_seq ?_
                refine w_region ?_
                refine t_assign rfl ?_ rfl
                refine t_assign rfl ?_ rfl
                refine t_assign rfl ?_ rfl
                refine t_done ?_
                refine x_seq ?_
                refine w_ret ?_
                refine x_then_ret ?_
                refine x_block_ret ?_
                refine x_then_ret ?_
                refine x_then_ret ?_
                refine x_block_ret ?_
                refine x_then_ret ?_
                refine x_ret3 rfl rfl rfl rfl ?_
                rw [rvK_bad hx hs' (.inl ⟨by omega, by omega⟩)] at hq
                exact ⟨ret_rv hr (by rw [← hq]; rfl), ext_trans X0 B⟩
              · intro hbad
                refine t_on rfl rfl ?_
                refine t_move rfl ?_ rfl
                refine t_on rfl rfl ?_
                refine t_gtr rfl rfl ?_ rfl
                refine t_pickf rfl rfl ?_ rfl
                refine t_done ?_
                refine x_seq ?_
                refine w_if rfl ?_ ?_
                · intro hbig
                  refine w_seq ?_
                  refine w_region ?_
                  refine t_assign rfl ?_ rfl
                  refine t_assign rfl ?_ rfl
                  refine t_assign rfl ?_ rfl
                  refine t_done ?_
                  refine x_seq ?_
                  refine w_ret ?_
                  refine x_then_ret ?_
                  refine x_block_ret ?_
                  refine x_then_ret ?_
                  refine x_then_ret ?_
                  refine x_block_ret ?_
                  refine x_then_ret ?_
                  refine x_ret3 rfl rfl rfl rfl ?_
                  rw [rvK_bad hx hs' (.inr (by omega))] at hq
                  exact ⟨ret_rv hr (by rw [← hq]; rfl), ext_trans X0 B⟩
                · intro hbig
                  refine w_skip ?_
                  refine x_seq ?_
                  refine w_seq ?_
                  refine w_region ?_
                  refine t_move rfl ?_ rfl
                  refine t_move rfl ?_ rfl
                  refine t_move rfl ?_ rfl
                  refine t_add rfl rfl (by omega) ?_ rfl
                  refine t_add rfl rfl (by omega) ?_ rfl
                  refine t_assign rfl ?_ rfl
                  refine t_assign rfl ?_ rfl
                  refine t_assign rfl ?_ rfl
                  refine t_done ?_
                  refine x_seq ?_
                  refine w_ret ?_
                  refine x_block_ret ?_
                  refine x_then_ret ?_
                  refine x_then_ret ?_
                  refine x_block_ret ?_
                  refine x_then_ret ?_
                  refine x_ret3 rfl rfl rfl rfl ?_
                  rw [rvK_last hx hs' (by omega)] at hq
                  exact ⟨ret_rv hr (by rw [← hq]; simp only [rv3]; congr 2; omega), ext_trans X0 B⟩
            · intro hx0
              refine t_off rfl rfl rfl ?_ rfl
              refine t_off rfl rfl rfl ?_ rfl
              refine t_pickf rfl rfl ?_ rfl
              refine t_move rfl ?_ rfl
              refine t_on rfl rfl ?_
              refine t_move rfl ?_ rfl
              refine t_on rfl rfl ?_
              refine t_gtr rfl rfl ?_ rfl
              refine t_pickf rfl rfl ?_ rfl
              refine t_done ?_
              refine x_seq ?_
              refine w_if rfl ?_ ?_
              · intro hbig
                refine w_seq ?_
                refine w_region ?_
                refine t_assign rfl ?_ rfl
                refine t_assign rfl ?_ rfl
                refine t_assign rfl ?_ rfl
                refine t_done ?_
                refine x_seq ?_
                refine w_ret ?_
                refine x_then_ret ?_
                refine x_block_ret ?_
                refine x_then_ret ?_
                refine x_then_ret ?_
                refine x_block_ret ?_
                refine x_then_ret ?_
                refine x_ret3 rfl rfl rfl rfl ?_
                rw [rvK_bad hx hs' (.inr (by omega))] at hq
                exact ⟨ret_rv hr (by rw [← hq]; rfl), ext_trans X0 B⟩
              · intro hbig
                refine w_skip ?_
                refine x_seq ?_
                refine w_seq ?_
                refine w_region ?_
                refine t_move rfl ?_ rfl
                refine t_move rfl ?_ rfl
                refine t_move rfl ?_ rfl
                refine t_add rfl rfl (by omega) ?_ rfl
                refine t_add rfl rfl (by omega) ?_ rfl
                refine t_assign rfl ?_ rfl
                refine t_assign rfl ?_ rfl
                refine t_assign rfl ?_ rfl
                refine t_done ?_
                refine x_seq ?_
                refine w_ret ?_
                refine x_block_ret ?_
                refine x_then_ret ?_
                refine x_then_ret ?_
                refine x_block_ret ?_
                refine x_then_ret ?_
                refine x_ret3 rfl rfl rfl rfl ?_
                rw [rvK_last hx hs' (by omega)] at hq
                exact ⟨ret_rv hr (by rw [← hq]; simp only [rv3]; congr 2; omega), ext_trans X0 B⟩
          · intro hs
            refine w_skip ?_
            refine x_block_normal ?_
            refine x_seq ?_
            refine w_region ?_
            refine t_move rfl ?_ rfl
            refine t_add rfl rfl (by omega) ?_ rfl
            refine t_assign rfl ?_ rfl
            refine t_done ?_
            refine x_round (I := (fun x wq => (fun k n => k ≤ 6 ∧ (k = 0 ∨ 0 ≤ i) ∧ 0 ≤ n ∧ n < 128 ^ k ∧ (0 ≤ i → rvK b (6 - k) k n (i.toNat + k) = readVI b i) ∧ Below w.heap.size w wq ∧ Sep w.heap.size wq []) x.1 x.2)) (F := (fun x => (fun k n => [(8, I ((k : Int))), (7, I n), (0, v), (1, I i)]) x.1 x.2)) (μ := (fun x => (fun k n => 6 - k) x.1 x.2)) (k + 1, n + (((x.toNat : Int) % 128) * 128 ^ k)) ?_ (by exact ⟨rfl, rfl, rfl, rfl, trivial⟩) (by (try dsimp only); omega)
            try dsimp only
            rw [rvK_more hx (by omega)] at hq
            exact ⟨by omega, by omega, by omega, by omega, fun _ => hq, B, S⟩
    · intro hk6
      refine w_exit ?_
      refine x_then_exit ?_
      refine x_then_exit ?_
      refine x_block_exit ?_
      refine x_seq ?_
      refine w_seq ?_
      refine w_region ?_
      refine t_assign rfl ?_ rfl
      refine t_assign rfl ?_ rfl
      refine t_assign rfl ?_ rfl
      refine t_done ?_
      refine x_seq ?_
      refine w_ret ?_
      refine x_ret3 rfl rfl rfl rfl ?_
      have : 6 - k = 0 := by omega
      rw [this] at hq
      exact ⟨ret_rv hr (by rw [← hq (by omega)]; rfl), ext_trans X0 B⟩

theorem rv_no {o : Option (Int × Nat)} {n j : Int} {ok : Bool} (hr : rv3 o = (n, j, ok)) (h : (!ok) = true) : o = none := by
  cases ok
  · exact rv3_false hr
  · cases h
theorem rv_yes {b : List UInt8} {i n j : Int} {ok : Bool} (hr : rv3 (readVI b i) = (n, j, ok)) (h : (!ok) = false) : readVI b i = some (n, j.toNat) ∧ 0 ≤ n ∧ n ≤ 1000000000000 ∧ i < j ∧ j ≤ b.length ∧ 0 ≤ i := by
  cases ok
  · cases h
  · obtain ⟨m, ho, rfl⟩ := rv3_true hr
    have := readVI_out ho
    exact ⟨ho, this.1, this.2.1, this.2.2.1, by have := this.2.2.2.1; show (m : Int) ≤ _; omega, this.2.2.2.2⟩
theorem dec3_true {o : Option (List Int × Nat)} {l : List Int} {j : Int} (h : dec3 o = (l, j, true)) : ∃ m : Nat, o = some (l, m) ∧ j = m := by
  rcases o with _ | ⟨a, m⟩
  · cases h
  · cases h; exact ⟨m, rfl, rfl⟩
theorem dec_no {o : Option (List Int × Nat)} {l : List Int} {j : Int} {ok : Bool} (hr : dec3 o = (l, j, ok)) (h : (!ok) = true) : o = none := by
  cases ok
  · rcases o with _ | ⟨a, m⟩
    · rfl
    · cases hr
  · cases h
theorem dec_yes {b : List UInt8} {i n j : Int} {l : List Int} {ok : Bool} (hr : dec3 (decI b i n) = (l, j, ok)) (h : (!ok) = false) : decI b i n = some (l, j.toNat) ∧ l.length = n.toNat ∧ (∀ x ∈ l, 0 ≤ x ∧ x ≤ 1000000000000) ∧ i ≤ j ∧ j ≤ b.length ∧ 0 ≤ j := by
  cases ok
  · cases h
  · obtain ⟨m, ho, rfl⟩ := dec3_true hr
    have := decI_out ho
    exact ⟨ho, this.1, this.2.1, this.2.2.1, by have := this.2.2.2; show (m : Int) ≤ _; omega, by omega⟩

theorem impl_DecodeInts (b : List UInt8) (v : Value) (i n : Int) {l0 : List Int} {j0 : Int} {ok0 : Bool} (w : World) (h : SlR byteT w v b) (hz : b.length ≤ 1048576) (hr : dec3 (decI b i n) = (l0, j0, ok0)) : Calls Try.prog 96 #[v, I i, I n] w fun e w' => ∃ v fp, e = .returned (.tuple #[v, I j0, .bool ok0]) ∧ SlO intT 3 w.heap.size w' v l0 fp ∧ Below w.heap.size w w' := by
  have X0 := Below.refl w.heap.size w
  refine enter Try.func96 rfl Try.ntmps96 rfl ?_
  refine w_seq ?_
  refine w_region ?_
  have S := Sep.nil w
  have B := Below.refl w.heap.size w
  have Hb := Nat.le_refl w.heap.size
  refine t_assign rfl ?_ rfl
  refine t_assign rfl ?_ rfl
  refine t_assign rfl ?_ rfl
  refine t_done ?_
  refine x_seq ?_
  refine w_seq ?_
  refine w_seq ?_
  refine w_region ?_
  refine t_move rfl ?_ rfl
  refine t_calls Try.call70 rfl (impl_InRange _ _ _ _) ?_ rfl rfl
  refine t_notb rfl ?_ rfl
  refine t_move rfl ?_ rfl
  refine t_part (t := 17) rfl ?_ ?_
  · intro h1
    refine t_off rfl rfl rfl ?_ rfl
    refine t_off rfl rfl rfl ?_ rfl
    refine t_off rfl rfl rfl ?_ rfl
    refine t_off rfl rfl rfl ?_ rfl
    refine t_off rfl rfl rfl ?_ rfl
    refine t_pickt rfl rfl ?_ rfl
    refine t_done ?_
    refine x_seq ?_
    refine w_yes rfl ?_
    refine w_seq ?_
    refine w_region ?_
    refine t_assign rfl ?_ rfl
    refine t_assign rfl ?_ rfl
    refine t_assign rfl ?_ rfl
    refine t_done ?_
    refine x_seq ?_
    refine w_ret ?_
    refine x_then_ret ?_
    refine x_ret3 rfl rfl rfl rfl ?_
    rw [decI, show inR n 0 100 = false by simpa using h1] at hr
    cases hr
    obtain ⟨fp, hO⟩ := (S.addNil.mono X0.size).head
    exact ⟨_, fp, rfl, hO, ext_trans X0 B⟩
  intro h1
  have h1' : inR n 0 100 = true := by simpa using h1
  have r1 := inR_iff.1 h1'
  refine t_on rfl rfl ?_
  refine t_move rfl ?_ rfl
  refine t_on rfl rfl ?_
  refine t_move rfl ?_ rfl
  refine t_on rfl rfl ?_
  refine t_len e_byte (by assumption) rfl rfl ?_ rfl
  refine t_on rfl rfl ?_
  refine t_calls Try.call70 rfl (impl_InRange _ _ _ _) ?_ rfl rfl
  refine t_on rfl rfl ?_
  refine t_notb rfl ?_ rfl
  refine t_pickf rfl rfl ?_ rfl
  refine t_done ?_
  refine x_seq ?_
  refine w_ifb rfl ?_ ?_
  · intro h2
    refine w_seq ?_
    refine w_region ?_
    refine t_assign rfl ?_ rfl
    refine t_assign rfl ?_ rfl
    refine t_assign rfl ?_ rfl
    refine t_done ?_
    refine x_seq ?_
    refine w_ret ?_
    refine x_then_ret ?_
    refine x_ret3 rfl rfl rfl rfl ?_
    rw [decI, h1', show inR i 0 b.length = false by simpa using h2] at hr
    cases hr
    obtain ⟨fp, hO⟩ := (S.addNil.mono X0.size).head
    exact ⟨_, fp, rfl, hO, ext_trans X0 B⟩
  intro h2
  have h2' : inR i 0 b.length = true := by simpa using h2
  have r2 := inR_iff.1 h2'
  have hd : decI b i n = decA b n.toNat i.toNat [] := by rw [decI, h1', h2']; rfl
  refine w_skip ?_
  refine x_seq ?_
  refine w_seq ?_
  refine w_region ?_
  refine t_assign rfl ?_ rfl
  refine t_done ?_
  refine x_seq ?_
  refine w_seq ?_
  refine w_seq ?_
  refine w_region ?_
  refine t_assign rfl ?_ rfl
  refine t_done ?_
  refine x_seq ?_
  refine w_block ?_
  refine w_loop (X := Nat × Int × List Int × Value) (fun x wq => (fun k q acc u => k ≤ n.toNat ∧ (0 : Int) ≤ q ∧ q ≤ b.length ∧ acc.length = k ∧ decA b (n.toNat - k) q.toNat acc = decA b n.toNat i.toNat [] ∧ Below w.heap.size w wq ∧ Sep w.heap.size wq [slO intT 3 u acc]) x.1 x.2.1 x.2.2.1 x.2.2.2) (fun x => (fun k q acc u => [(10, I ((k : Int))), (1, I q), (9, u), (0, v), (2, I n)]) x.1 x.2.1 x.2.2.1 x.2.2.2) (fun x => (fun k q acc u => n.toNat - k) x.1 x.2.1 x.2.2.1 x.2.2.2) (0, i, [], .slice none 0 0) ?_ ⟨rfl, rfl, rfl, rfl, rfl, trivial⟩ ?_
  · exact ⟨by omega, (by show (0 : Int) ≤ i; omega), (by show i ≤ _; omega), rfl, rfl, B, S.addNil⟩
  · rintro ⟨k, q, acc, u⟩ w3 hI
    try dsimp only at hI ⊢
    obtain ⟨hk, hq0, hq1, hal, hq, B, S⟩ := hI
    refine w_seq ?_
    refine w_seq ?_
    refine w_region ?_
    refine t_move rfl ?_ rfl
    refine t_move rfl ?_ rfl
    refine t_lss rfl rfl ?_ rfl
    refine t_done ?_
    refine x_seq ?_
    refine w_if rfl ?_ ?_
    · intro hlt
      have hf : n.toNat - k = (n.toNat - (k + 1)) + 1 := by omega
      rw [hf] at hq
      obtain ⟨x1, j1, ok1, hr1⟩ : ∃ x j ok, rv3 (readVI b q) = (x, j, ok) := ⟨_, _, _, rfl⟩
      have hrq : readVI b q = readV b q.toNat := by rw [readVI, if_pos hq0]
      refine w_skip ?_
      refine x_seq ?_
      refine w_seq ?_
      refine w_block ?_
      refine w_seq ?_
      refine w_region ?_
      refine t_move rfl ?_ rfl
      refine t_move rfl ?_ rfl
      refine t_callx Try.call95 rfl (impl_ReadVarint _ _ _ _ (by first | assumption | exact SlR.below (by assumption) B) (by omega) (by omega) hr1) ?_ rfl rfl
      intro w4 x5
      have B := bx Hb B x5
      have S := S.below x5
      refine t_move rfl ?_ rfl
      refine t_extract rfl rfl ?_ rfl
      refine t_extract rfl rfl ?_ rfl
      refine t_extract rfl rfl ?_ rfl
      refine t_assign rfl ?_ rfl
      refine t_assign rfl ?_ rfl
      refine t_assign rfl ?_ rfl
      refine t_done ?_
      refine x_seq ?_
      refine w_seq ?_
      refine w_seq ?_
      refine w_region ?_
      refine t_move rfl ?_ rfl
      refine t_notb rfl ?_ rfl
      refine t_done ?_
      refine x_seq ?_
      refine w_ifb rfl ?_ ?_
      · intro hno
        refine w_seq ?_
        refine w_region ?_
        refine t_assign rfl ?_ rfl
        refine t_assign rfl ?_ rfl
        refine t_assign rfl ?_ rfl
        refine t_done ?_
        refine x_seq ?_
        refine w_ret ?_
        refine x_then_ret ?_
        refine x_block_ret ?_
        refine x_then_ret ?_
        refine x_then_ret ?_
        refine x_block_ret ?_
        refine x_then_ret ?_
        refine x_ret3 rfl rfl rfl rfl ?_
        have hno' := rv_no hr1 hno
        rw [hrq] at hno'
        rw [decA_no hno'] at hq
        rw [hd, ← hq] at hr
        cases hr
        obtain ⟨fp, hO⟩ := (S.addNil.mono X0.size).head
        exact ⟨_, fp, rfl, hO, ext_trans X0 B⟩
      · intro hyes
        obtain ⟨hy1, hy2, hy3, hy4, hy5, hy6⟩ := rv_yes hr1 hyes
        rw [hrq] at hy1
        rw [decA_yes hy1] at hq
        refine w_skip ?_
        refine x_seq ?_
        refine w_seq ?_
        refine w_region ?_
        refine t_move rfl ?_ rfl
        refine t_move rfl ?_ rfl
        refine t_lit (T := intT) (l := [x1]) (css := ([x1]).map fun a => [I a]) int_flat S (fun w => bs_int1 _ w) rfl rfl rfl rfl (by simp [maxLen]) (litR_int _) ?_ rfl rfl
        intro u40 w6 x7 S
        have B := bx Hb B x7
        have hR := S.sl
        have S := S.f1
        refine t_cat int_flat e_int S hR rfl rfl rfl (by first | omega | (simp [-List.length_flatMap]; omega)) (by (simp [maxLen, -List.length_flatMap]; try omega)) ?_ rfl
        intro v41 w8 x9 S
        have B := B.trans x9
        clear hR
        have S := S.f1
        have S := S.tail
        refine t_assign rfl ?_ rfl
        refine t_done ?_
        refine x_seq ?_
        refine w_region ?_
        refine t_move rfl ?_ rfl
        refine t_assign rfl ?_ rfl
        refine t_done ?_
        refine x_block_normal ?_
        refine x_seq ?_
        refine w_region ?_
        refine t_move rfl ?_ rfl
        refine t_add rfl rfl (by omega) ?_ rfl
        refine t_assign rfl ?_ rfl
        refine t_done ?_
        refine x_round (I := (fun x wq => (fun k q acc u => k ≤ n.toNat ∧ (0 : Int) ≤ q ∧ q ≤ b.length ∧ acc.length = k ∧ decA b (n.toNat - k) q.toNat acc = decA b n.toNat i.toNat [] ∧ Below w.heap.size w wq ∧ Sep w.heap.size wq [slO intT 3 u acc]) x.1 x.2.1 x.2.2.1 x.2.2.2)) (F := (fun x => (fun k q acc u => [(10, I ((k : Int))), (1, I q), (9, u), (0, v), (2, I n)]) x.1 x.2.1 x.2.2.1 x.2.2.2)) (μ := (fun x => (fun k q acc u => n.toNat - k) x.1 x.2.1 x.2.2.1 x.2.2.2)) (k + 1, j1, acc ++ [x1], v41) ?_ (by exact ⟨rfl, rfl, rfl, rfl, rfl, trivial⟩) (by (try dsimp only); omega)
        try dsimp only
        exact ⟨by omega, by omega, by omega, by rw [List.length_append, hal]; rfl, hq, B, S⟩
    · intro hge
      refine w_exit ?_
      refine x_then_exit ?_
      refine x_then_exit ?_
      refine x_block_exit ?_
      refine x_seq ?_
      refine w_seq ?_
      refine w_region ?_
      refine t_move rfl ?_ rfl
      refine t_move rfl ?_ rfl
      refine t_assign rfl ?_ rfl
      refine t_assign rfl ?_ rfl
      refine t_assign rfl ?_ rfl
      refine t_done ?_
      refine x_seq ?_
      refine w_ret ?_
      refine x_ret3 rfl rfl rfl rfl ?_
      have : n.toNat - k = 0 := by omega
      rw [this] at hq
      rw [hd, ← hq] at hr
      have e0 : (l0, j0, ok0) = (acc, q, true) := by rw [← hr]; simp only [decA, dec3]; congr 2; omega
      cases e0
      obtain ⟨fp, hO⟩ := (S.mono X0.size).head
      exact ⟨_, fp, rfl, hO, ext_trans X0 B⟩
theorem spec_DecodeInts (b : List UInt8) (v : Value) (i n : Int) {l0 : List Int} {j0 : Int} {ok0 : Bool} (w : World) (h : SlR byteT w v b) (hz : b.length ≤ 1048576) (hr : dec3 (decI b i n) = (l0, j0, ok0)) : Calls Try.prog 93 #[v, I i, I n] w fun e w' => ∃ v fp, e = .returned (.tuple #[v, I j0, .bool ok0]) ∧ SlO intT 3 w.heap.size w' v l0 fp ∧ Below w.heap.size w w' := by
  have X0 := Below.refl w.heap.size w
  refine enter Try.func93 rfl Try.ntmps93 rfl ?_
  refine w_seq ?_
  refine w_region ?_
  have S := Sep.nil w
  have B := Below.refl w.heap.size w
  have Hb := Nat.le_refl w.heap.size
  refine t_assign rfl ?_ rfl
  refine t_assign rfl ?_ rfl
  refine t_assign rfl ?_ rfl
  refine t_done ?_
  refine x_seq ?_
  refine w_seq ?_
  refine w_region ?_
  refine t_lit (T := intT) (css := []) (l := []) int_flat S bs_int0 rfl rfl rfl rfl (Nat.zero_le _) litR_nil ?_ rfl rfl
  intro u14 w10 x11 S
  have B := bx Hb B x11
  refine t_assign rfl ?_ rfl
  refine t_done ?_
  refine x_seq ?_
  refine w_seq ?_
  refine w_seq ?_
  refine w_region ?_
  refine t_move rfl ?_ rfl
  refine t_calls Try.call64 rfl (spec_l1In _ _ _ _) ?_ rfl rfl
  refine t_notb rfl ?_ rfl
  refine t_move rfl ?_ rfl
  refine t_part (t := 18) rfl ?_ ?_
  · intro h1
    refine t_off rfl rfl rfl ?_ rfl
    refine t_off rfl rfl rfl ?_ rfl
    refine t_off rfl rfl rfl ?_ rfl
    refine t_off rfl rfl rfl ?_ rfl
    refine t_off rfl rfl rfl ?_ rfl
    refine t_pickt rfl rfl ?_ rfl
    refine t_done ?_
    refine x_seq ?_
    refine w_yes rfl ?_
    refine w_seq ?_
    refine w_region ?_
    refine t_move rfl ?_ rfl
    refine t_assign rfl ?_ rfl
    refine t_assign rfl ?_ rfl
    refine t_assign rfl ?_ rfl
    refine t_done ?_
    refine x_seq ?_
    refine w_ret ?_
    refine x_then_ret ?_
    refine x_ret3 rfl rfl rfl rfl ?_
    rw [decI, show inR n 0 100 = false by simpa using h1] at hr
    cases hr
    obtain ⟨fp, hO⟩ := (S.mono X0.size).head
    exact ⟨_, fp, rfl, hO, ext_trans X0 B⟩
  intro h1
  have h1' : inR n 0 100 = true := by simpa using h1
  have r1 := inR_iff.1 h1'
  refine t_on rfl rfl ?_
  refine t_move rfl ?_ rfl
  refine t_on rfl rfl ?_
  refine t_move rfl ?_ rfl
  refine t_on rfl rfl ?_
  refine t_len e_byte (by assumption) rfl rfl ?_ rfl
  refine t_on rfl rfl ?_
  refine t_calls Try.call64 rfl (spec_l1In _ _ _ _) ?_ rfl rfl
  refine t_on rfl rfl ?_
  refine t_notb rfl ?_ rfl
  refine t_pickf rfl rfl ?_ rfl
  refine t_done ?_
  refine x_seq ?_
  refine w_ifb rfl ?_ ?_
  · intro h2
    refine w_seq ?_
    refine w_region ?_
    refine t_move rfl ?_ rfl
    refine t_assign rfl ?_ rfl
    refine t_assign rfl ?_ rfl
    refine t_assign rfl ?_ rfl
    refine t_done ?_
    refine x_seq ?_
    refine w_ret ?_
    refine x_then_ret ?_
    refine x_ret3 rfl rfl rfl rfl ?_
    rw [decI, h1', show inR i 0 b.length = false by simpa using h2] at hr
    cases hr
    obtain ⟨fp, hO⟩ := (S.mono X0.size).head
    exact ⟨_, fp, rfl, hO, ext_trans X0 B⟩
  intro h2
  have h2' : inR i 0 b.length = true := by simpa using h2
  have r2 := inR_iff.1 h2'
  have hd : decI b i n = decA b n.toNat i.toNat [] := by rw [decI, h1', h2']; rfl
  refine w_skip ?_
  refine x_seq ?_
  refine w_seq ?_
  refine w_seq ?_
  refine w_region ?_
  refine t_assign rfl ?_ rfl
  refine t_done ?_
  refine x_seq ?_
  refine w_block ?_
  refine w_loop (X := Nat × Int × List Int × Value) (fun x wq => (fun k q acc u => k ≤ n.toNat ∧ (0 : Int) ≤ q ∧ q ≤ b.length ∧ acc.length = k ∧ decA b (n.toNat - k) q.toNat acc = decA b n.toNat i.toNat [] ∧ Below w.heap.size w wq ∧ Sep w.heap.size wq [slO intT 3 u acc]) x.1 x.2.1 x.2.2.1 x.2.2.2) (fun x => (fun k q acc u => [(10, I ((k : Int))), (1, I q), (9, u), (0, v), (2, I n)]) x.1 x.2.1 x.2.2.1 x.2.2.2) (fun x => (fun k q acc u => n.toNat - k) x.1 x.2.1 x.2.2.1 x.2.2.2) (0, i, [], u14) ?_ ⟨rfl, rfl, rfl, rfl, rfl, trivial⟩ ?_
  · exact ⟨by omega, (by show (0 : Int) ≤ i; omega), (by show i ≤ _; omega), rfl, rfl, B, S⟩
  · rintro ⟨k, q, acc, u⟩ w12 hI
    try dsimp only at hI ⊢
    obtain ⟨hk, hq0, hq1, hal, hq, B, S⟩ := hI
    refine w_seq ?_
    refine w_seq ?_
    refine w_region ?_
    refine t_move rfl ?_ rfl
    refine t_move rfl ?_ rfl
    refine t_lss rfl rfl ?_ rfl
    refine t_done ?_
    refine x_seq ?_
    refine w_if rfl ?_ ?_
    · intro hlt
      have hf : n.toNat - k = (n.toNat - (k + 1)) + 1 := by omega
      rw [hf] at hq
      obtain ⟨x1, j1, ok1, hr1⟩ : ∃ x j ok, rv3 (readVI b q) = (x, j, ok) := ⟨_, _, _, rfl⟩
      have hrq : readVI b q = readV b q.toNat := by rw [readVI, if_pos hq0]
      refine w_skip ?_
      refine x_seq ?_
      refine w_seq ?_
      refine w_block ?_
      refine w_seq ?_
      refine w_region ?_
      refine t_move rfl ?_ rfl
      refine t_move rfl ?_ rfl
      refine t_callx Try.call92 rfl (spec_ReadVarint _ _ _ _ (by first | assumption | exact SlR.below (by assumption) B) (by omega) (by omega) hr1) ?_ rfl rfl
      intro w13 x14
      have B := bx Hb B x14
      have S := S.below x14
      refine t_move rfl ?_ rfl
      refine t_extract rfl rfl ?_ rfl
      refine t_extract rfl rfl ?_ rfl
      refine t_extract rfl rfl ?_ rfl
      refine t_assign rfl ?_ rfl
      refine t_assign rfl ?_ rfl
      refine t_assign rfl ?_ rfl
      refine t_done ?_
      refine x_seq ?_
      refine w_seq ?_
      refine w_seq ?_
      refine w_region ?_
      refine t_move rfl ?_ rfl
      refine t_notb rfl ?_ rfl
      refine t_done ?_
      refine x_seq ?_
      refine w_ifb rfl ?_ ?_
      · intro hno
        refine w_seq ?_
        refine w_region ?_
        refine t_lit (T := intT) (css := []) (l := []) int_flat S bs_int0 rfl rfl rfl rfl (Nat.zero_le _) litR_nil ?_ rfl rfl
        intro u40 w15 x16 S
        have B := bx Hb B x16
        refine t_assign rfl ?_ rfl
        refine t_assign rfl ?_ rfl
        refine t_assign rfl ?_ rfl
        refine t_done ?_
        refine x_seq ?_
        refine w_ret ?_
        refine x_then_ret ?_
        refine x_block_ret ?_
        refine x_then_ret ?_
        refine x_then_ret ?_
        refine x_block_ret ?_
        refine x_then_ret ?_
        refine x_ret3 rfl rfl rfl rfl ?_
        have hno' := rv_no hr1 hno
        rw [hrq] at hno'
        rw [decA_no hno'] at hq
        rw [hd, ← hq] at hr
        cases hr
        obtain ⟨fp, hO⟩ := (S.mono X0.size).head
        exact ⟨_, fp, rfl, hO, ext_trans X0 B⟩
      · intro hyes
        obtain ⟨hy1, hy2, hy3, hy4, hy5, hy6⟩ := rv_yes hr1 hyes
        rw [hrq] at hy1
        rw [decA_yes hy1] at hq
        refine w_skip ?_
        refine x_seq ?_
        refine w_seq ?_
        refine w_region ?_
        refine t_move rfl ?_ rfl
        refine t_move rfl ?_ rfl
        refine t_lit (T := intT) (l := [x1]) (css := ([x1]).map fun a => [I a]) int_flat S (fun w => bs_int1 _ w) rfl rfl rfl rfl (by simp [maxLen]) (litR_int _) ?_ rfl rfl
        intro u43 w17 x18 S
        have B := bx Hb B x18
        have hR := S.sl
        have S := S.f1
        refine t_cat int_flat e_int S hR rfl rfl rfl (by first | omega | (simp [-List.length_flatMap]; omega)) (by (simp [maxLen, -List.length_flatMap]; try omega)) ?_ rfl
        intro v44 w19 x20 S
        have B := B.trans x20
        clear hR
        have S := S.f1
        have S := S.tail
        refine t_assign rfl ?_ rfl
        refine t_done ?_
        refine x_seq ?_
        refine w_region ?_
        refine t_move rfl ?_ rfl
        refine t_assign rfl ?_ rfl
        refine t_done ?_
        refine x_block_normal ?_
        refine x_seq ?_
        refine w_region ?_
        refine t_move rfl ?_ rfl
        refine t_add rfl rfl (by omega) ?_ rfl
        refine t_assign rfl ?_ rfl
        refine t_done ?_
        refine x_round (I := (fun x wq => (fun k q acc u => k ≤ n.toNat ∧ (0 : Int) ≤ q ∧ q ≤ b.length ∧ acc.length = k ∧ decA b (n.toNat - k) q.toNat acc = decA b n.toNat i.toNat [] ∧ Below w.heap.size w wq ∧ Sep w.heap.size wq [slO intT 3 u acc]) x.1 x.2.1 x.2.2.1 x.2.2.2)) (F := (fun x => (fun k q acc u => [(10, I ((k : Int))), (1, I q), (9, u), (0, v), (2, I n)]) x.1 x.2.1 x.2.2.1 x.2.2.2)) (μ := (fun x => (fun k q acc u => n.toNat - k) x.1 x.2.1 x.2.2.1 x.2.2.2)) (k + 1, j1, acc ++ [x1], v44) ?_ (by exact ⟨rfl, rfl, rfl, rfl, rfl, trivial⟩) (by (try dsimp only); omega)
        try dsimp only
        exact ⟨by omega, by omega, by omega, by rw [List.length_append, hal]; rfl, hq, B, S⟩
    · intro hge
      refine w_exit ?_
      refine x_then_exit ?_
      refine x_then_exit ?_
      refine x_block_exit ?_
      refine x_seq ?_
      refine w_seq ?_
      refine w_region ?_
      refine t_move rfl ?_ rfl
      refine t_move rfl ?_ rfl
      refine t_assign rfl ?_ rfl
      refine t_assign rfl ?_ rfl
      refine t_assign rfl ?_ rfl
      refine t_done ?_
      refine x_seq ?_
      refine w_ret ?_
      refine x_ret3 rfl rfl rfl rfl ?_
      have : n.toNat - k = 0 := by omega
      rw [this] at hq
      rw [hd, ← hq] at hr
      have e0 : (l0, j0, ok0) = (acc, q, true) := by rw [← hr]; simp only [decA, dec3]; congr 2; omega
      cases e0
      obtain ⟨fp, hO⟩ := (S.mono X0.size).head
      exact ⟨_, fp, rfl, hO, ext_trans X0 B⟩
end Go.Proofs.Ytfgobdejlfojiaa
