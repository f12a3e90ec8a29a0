/- Numbers as bytes: copyBytes, AppendVarint, appendInts, EncodeInts, AppendHop, AppendPath, PathSize. -/
import Derived.Test.YtfgobdejlfojiaaWkD
import Derived.Test.YtfgobdejlfojiaaMut
import Derived.Test.YtfgobdejlfojiaaEnc
import Derived.Laws.Bits128
import Derived.Laws.Shifts
namespace Go.Proofs.Ytfgobdejlfojiaa
open Go.RowKit
set_option linter.unusedVariables false
set_option maxRecDepth 20000

section
variable {P : Program} {n : Nat} {ops : Array Oper} {Q : Exit → Act → World → Prop} {L : Frm} {w : World} {m : Md} {r : IT} {d : Nat} {ty : TypeId} {pos : String} {af : Array Edge}
theorem i64_or128 (y : Int) (h₀ : 0 ≤ y) (h₁ : y < 128) : bits .or .i64 y 128 = y + 128 := by
  have hc : bits .or .i64 y 128 = bits .or .i64 128 y := by simp only [bits, BitVec.or_comm]
  rw [hc, bits_join .i64 8 (by decide) (fun n h0 h1 => by rw [IntKind.wrap_i64]; omega) 7 128 y (by decide) (by decide) (by decide) h₀ h₁ (by omega)]
  omega
theorem t_and127 {x y : Operand} {t t' : TypeId} {a : Int} (hx : ev L x = some (I a)) (hy : ev L y = some (I 127)) (k : WT P n ops Q r ((d, I (a % 128)) :: L) w) (hn : Nat.blt d n = true) : WT P n ops Q (.st m ⟨some d, .binOp .and t x y t', ty, pos, af, none⟩ r) L w :=
  t_read (fun e ha _ _ _ w' _ => by simp [execOp, ha.ev hx, ha.ev hy, eqGuard, binOp, intBits_and, i64_and127]) k hn
theorem t_or128 {x y : Operand} {t t' : TypeId} {a : Int} (hx : ev L x = some (I a)) (hy : ev L y = some (I 128)) (hr : 0 ≤ a ∧ a < 128) (k : WT P n ops Q r ((d, I (a + 128)) :: L) w) (hn : Nat.blt d n = true) : WT P n ops Q (.st m ⟨some d, .binOp .or t x y t', ty, pos, af, none⟩ r) L w :=
  t_read (fun e ha _ _ _ w' _ => by simp [execOp, ha.ev hx, ha.ev hy, eqGuard, binOp, intBits_or, i64_or128 a hr.1 hr.2]) k hn
theorem t_shr7 {x y : Operand} {t t' : TypeId} {a : Int} (hx : ev L x = some (I a)) (hy : ev L y = some (.int .u64 7)) (k : WT P n ops Q r ((d, I (a / 128)) :: L) w) (hn : Nat.blt d n = true) : WT P n ops Q (.st m ⟨some d, .binOp .shr t x y t', ty, pos, af, none⟩ r) L w :=
  t_read (fun e ha _ _ _ w' _ => by simp [execOp, ha.ev hx, ha.ev hy, eqGuard, binOp, shift_shr_any, IntKind.bits]) k hn
end
theorem nilR {α : Type} {T : Ty α} {w : World} : SlR T w (.slice none 0 0) [] := (SlO.nil (e := 0) (base := 0)).read
theorem byte_lit (k : Int) {w : World} : byteT.R w [.int .u8 (IntKind.u8.wrap k)] (bt k) := by
  show _ = _; rw [← bt_toNat]

/-- A number as bytes. -/
def venc (n : Nat) : List UInt8 := if h : n < 128 then [bt n] else bt ((n : Int) % 128 + 128) :: venc (n / 128)
termination_by n
decreasing_by omega
theorem venc_small {n : Nat} (h : n < 128) : venc n = [bt n] := by rw [venc, dif_pos h]
theorem venc_big {n : Nat} (h : ¬ n < 128) : venc n = bt ((n : Int) % 128 + 128) :: venc (n / 128) := by rw [venc, dif_neg h]
theorem venc_len : ∀ (k n : Nat), n < 128 ^ (k + 1) → (venc n).length ≤ k + 1
  | 0, n, h => by rw [venc_small (by omega)]; simp
  | k + 1, n, h => by
    by_cases hs : n < 128
    · rw [venc_small hs]; simp
    · rw [venc_big hs, List.length_cons]
      have := venc_len k (n / 128) (by rw [Nat.div_lt_iff_lt_mul (by omega)]; rw [Nat.pow_succ] at h; exact h)
      omega
def vint (n : Int) : List UInt8 := if inR n 0 1000000000000 then venc n.toNat else []
theorem vint_len (n : Int) : (vint n).length ≤ 6 := by
  unfold vint
  split
  · rename_i h
    have := inR_iff.1 h
    exact venc_len 5 _ (by omega)
  · simp

theorem impl_copyBytes (b : List UInt8) (v : Value) (w : World) (h : SlR byteT w v b) (hz : b.length ≤ 1000000000) : Calls Try.prog 104 #[v] w fun e w' => ∃ v fp, e = .returned v ∧ SlO byteT 5 w.heap.size w' v b fp ∧ Below w.heap.size w w' := by
  have X0 := Below.refl w.heap.size w
  refine enter Try.func104 rfl Try.ntmps104 rfl ?_
  refine w_seq ?_
  refine w_region ?_
  have S := Sep.nil w
  have B := Below.refl w.heap.size w
  have Hb := Nat.le_refl w.heap.size
  refine t_assign rfl ?_ rfl
  refine t_done ?_
  refine x_seq ?_
  refine w_seq ?_
  refine w_region ?_
  refine t_lit (T := byteT) (css := []) (l := []) byte_flat S bs_byte0 rfl rfl rfl rfl (Nat.zero_le _) litR_nil ?_ rfl rfl
  intro u3 w1 x2 S
  have B := bx Hb B x2
  refine t_move rfl ?_ rfl
  refine t_cat byte_flat e_byte S (by first | assumption | exact SlR.below (by assumption) B) rfl rfl rfl (by first | omega | (simp [-List.length_flatMap]; omega)) (by (simp [maxLen, -List.length_flatMap]; try omega)) ?_ rfl
  intro v5 w3 x4 S
  have B := B.trans x4
  refine t_assign rfl ?_ rfl
  refine t_done ?_
  refine x_seq ?_
  refine w_ret ?_
  refine x_ret1 rfl rfl ?_
  obtain ⟨fp, hO⟩ := (S.mono X0.size).head
  exact ⟨_, fp, rfl, hO, ext_trans X0 B⟩

theorem impl_AppendVarint (b : List UInt8) (v : Value) (i : Int) (w : World) (h : SlR byteT w v b) (hz : b.length ≤ 900000000) : Calls Try.prog 160 #[v, I i] w fun e w' => ∃ v fp, e = .returned v ∧ SlO byteT 5 w.heap.size w' v (b ++ vint i) fp ∧ Below w.heap.size w w' := by
  have X0 := Below.refl w.heap.size w
  refine enter Try.func160 rfl Try.ntmps160 rfl ?_
  refine w_seq ?_
  refine w_region ?_
  have S := Sep.nil w
  have B := Below.refl w.heap.size w
  have Hb := Nat.le_refl w.heap.size
  refine t_assign rfl ?_ rfl
  refine t_done ?_
  refine x_seq ?_
  refine w_seq ?_
  refine w_region ?_
  refine t_move rfl ?_ rfl
  refine t_call Try.call104 rfl (impl_copyBytes _ _ _ (by first | assumption | exact SlR.below (by assumption) B) (by omega)) ?_ rfl rfl
  rintro e w5 ⟨v7, fpv7, rfl, hOv7, x6⟩
  refine ⟨_, rfl, x6, ?_⟩
  have S := S.add (o := slO _ _ _ _) x6 hOv7
  have B := bx Hb B x6
  refine t_assign rfl ?_ rfl
  refine t_done ?_
  refine x_seq ?_
  refine w_seq ?_
  refine w_seq ?_
  refine w_region ?_
  refine t_move rfl ?_ rfl
  refine t_calls Try.call70 rfl (impl_InRange _ _ _ _) ?_ rfl rfl
  refine t_notb rfl ?_ rfl
  refine t_done ?_
  refine x_seq ?_
  refine w_ifb rfl ?_ ?_
  · intro h1
    refine w_seq ?_
    refine w_region ?_
    refine t_move rfl ?_ rfl
    refine t_assign rfl ?_ rfl
    refine t_done ?_
    refine x_seq ?_
    refine w_ret ?_
    refine x_then_ret ?_
    refine x_ret1 rfl rfl ?_
    have h1' : inR i 0 1000000000000 = false := by simpa using h1
    obtain ⟨fp, hO⟩ := (S.mono X0.size).head
    have hv : vint i = [] := by rw [vint, h1']; rfl
    exact ⟨_, fp, rfl, by rw [hv, List.append_nil]; exact hO, ext_trans X0 B⟩
  · intro h1
    have h1' : inR i 0 1000000000000 = true := by simpa using h1
    have r1 := inR_iff.1 h1'
    have hlen := vint_len i
    obtain ⟨n, rfl⟩ : ∃ n : Nat, i = n := ⟨i.toNat, by omega⟩
    have hv : vint n = venc n := by rw [vint, if_pos h1']; rfl
    refine w_skip ?_
    refine x_seq ?_
    refine w_seq ?_
    refine w_block ?_
    refine w_loop (X := Nat × List UInt8 × Value) (fun x wq => (fun m acc v => m ≤ 1000000000000 ∧ acc ++ venc m = vint n ∧ Below w.heap.size w wq ∧ Sep w.heap.size wq [slO byteT 5 v (b ++ acc)]) x.1 x.2.1 x.2.2) (fun x => (fun m acc v => [(1, I ((m : Int))), (5, v), (4, .slice none 0 0)]) x.1 x.2.1 x.2.2) (fun x => (fun m acc v => m) x.1 x.2.1 x.2.2) (n, [], v7) ?_ ⟨rfl, rfl, rfl, trivial⟩ ?_
    · exact ⟨by omega, by rw [hv]; rfl, B, by simpa using S⟩
    · rintro ⟨m, acc, v⟩ w7 hI
      try dsimp only at hI ⊢
      obtain ⟨hk, ha, B, S⟩ := hI
      have hal : acc.length ≤ 6 := by have := congrArg List.length ha; rw [List.length_append] at this; omega
      have hbl : (b ++ acc).length ≤ 950000000 := by rw [List.length_append]; omega
      refine w_seq ?_
      refine w_seq ?_
      refine w_region ?_
      refine t_move rfl ?_ rfl
      refine t_geq rfl rfl ?_ rfl
      refine t_done ?_
      refine x_seq ?_
      refine w_if rfl ?_ ?_
      · intro hlt
        refine w_skip ?_
        refine x_seq ?_
        refine w_block ?_
        refine w_seq ?_
        refine w_region ?_
        refine t_move rfl ?_ rfl
        refine t_move rfl ?_ rfl
        refine t_rem rfl rfl (by omega) ?_ rfl
        refine t_add rfl rfl (by omega) ?_ rfl
        refine t_conv Try.underlying3 Try.underlying5 rfl ?_ rfl
        refine t_lit (T := byteT) (l := [bt (((m : Int) % 128) + 128)]) (css := [[.int .u8 (IntKind.u8.wrap (((m : Int) % 128) + 128))]]) byte_flat S (fun w => bs_byte1 _ w) rfl rfl rfl rfl (by simp [maxLen]) (litR_one fun _ => byte_lit _) ?_ rfl rfl
        intro u19 w8 x9 S
        have B := bx Hb B x9
        have hR := S.sl
        have S := S.f1
        refine t_cat byte_flat e_byte S hR rfl rfl rfl (by first | omega | (simp [-List.length_flatMap]; omega)) (by (simp [maxLen, -List.length_flatMap]; try omega)) ?_ rfl
        intro v20 w10 x11 S
        have B := B.trans x11
        clear hR
        have S := S.f1
        have S := S.tail
        refine t_assign rfl ?_ rfl
        refine t_done ?_
        refine x_seq ?_
        refine w_region ?_
        refine t_move rfl ?_ rfl
        refine t_quo rfl rfl (by omega) ?_ rfl
        refine t_assign rfl ?_ rfl
        refine t_done ?_
        refine x_block_normal ?_
        refine x_round (I := (fun x wq => (fun m acc v => m ≤ 1000000000000 ∧ acc ++ venc m = vint n ∧ Below w.heap.size w wq ∧ Sep w.heap.size wq [slO byteT 5 v (b ++ acc)]) x.1 x.2.1 x.2.2)) (F := (fun x => (fun m acc v => [(1, I ((m : Int))), (5, v), (4, .slice none 0 0)]) x.1 x.2.1 x.2.2)) (μ := (fun x => (fun m acc v => m) x.1 x.2.1 x.2.2)) (m / 128, acc ++ [bt ((m : Int) % 128 + 128)], v20) ?_ (by exact ⟨rfl, rfl, rfl, trivial⟩) (by (try dsimp only); omega)
        try dsimp only
        refine ⟨by omega, ?_, B, by simpa using S⟩
        rw [List.append_assoc, ← ha, venc_big (n := m) (by omega)]
        rfl
      · intro hge
        refine w_exit ?_
        refine x_then_exit ?_
        refine x_then_exit ?_
        refine x_block_exit ?_
        refine x_seq ?_
        refine w_seq ?_
        refine w_region ?_
        refine t_move rfl ?_ rfl
        refine t_move rfl ?_ rfl
        refine t_conv Try.underlying3 Try.underlying5 rfl ?_ rfl
        refine t_lit (T := byteT) (l := [bt (m : Int)]) (css := [[.int .u8 (IntKind.u8.wrap (m : Int))]]) byte_flat S (fun w => bs_byte1 _ w) rfl rfl rfl rfl (by simp [maxLen]) (litR_one fun _ => byte_lit _) ?_ rfl rfl
        intro u26 w12 x13 S
        have B := bx Hb B x13
        have hR := S.sl
        have S := S.f1
        refine t_cat byte_flat e_byte S hR rfl rfl rfl (by first | omega | (simp [-List.length_flatMap]; omega)) (by (simp [maxLen, -List.length_flatMap]; try omega)) ?_ rfl
        intro v27 w14 x15 S
        have B := B.trans x15
        clear hR
        have S := S.f1
        have S := S.tail
        refine t_assign rfl ?_ rfl
        refine t_done ?_
        refine x_seq ?_
        refine w_ret ?_
        refine x_ret1 rfl rfl ?_
        obtain ⟨fp, hO⟩ := (S.mono X0.size).head
        refine ⟨_, fp, rfl, ?_, ext_trans X0 B⟩
        rw [← ha, venc_small (by omega), ← List.append_assoc]
        exact hO
theorem spec_AppendVarint (b : List UInt8) (v : Value) (i : Int) (w : World) (h : SlR byteT w v b) (hz : b.length ≤ 900000000) : Calls Try.prog 157 #[v, I i] w fun e w' => ∃ v fp, e = .returned v ∧ SlO byteT 5 w.heap.size w' v (b ++ vint i) fp ∧ Below w.heap.size w w' := by
  have X0 := Below.refl w.heap.size w
  refine enter Try.func157 rfl Try.ntmps157 rfl ?_
  refine w_seq ?_
  refine w_region ?_
  have S := Sep.nil w
  have B := Below.refl w.heap.size w
  have Hb := Nat.le_refl w.heap.size
  refine t_assign rfl ?_ rfl
  refine t_done ?_
  refine x_seq ?_
  refine w_seq ?_
  refine w_region ?_
  refine t_lit (T := byteT) (css := []) (l := []) byte_flat S bs_byte0 rfl rfl rfl rfl (Nat.zero_le _) litR_nil ?_ rfl rfl
  intro u6 w16 x17 S
  have B := bx Hb B x17
  refine t_move rfl ?_ rfl
  refine t_cat byte_flat e_byte S (by first | assumption | exact SlR.below (by assumption) B) rfl rfl rfl (by first | omega | (simp [-List.length_flatMap]; omega)) (by (simp [maxLen, -List.length_flatMap]; try omega)) ?_ rfl
  intro v8 w18 x19 S
  have B := B.trans x19
  refine t_assign rfl ?_ rfl
  refine t_done ?_
  refine x_seq ?_
  refine w_seq ?_
  refine w_seq ?_
  refine w_region ?_
  refine t_move rfl ?_ rfl
  refine t_calls Try.call64 rfl (spec_l1In _ _ _ _) ?_ rfl rfl
  refine t_notb rfl ?_ rfl
  refine t_done ?_
  refine x_seq ?_
  refine w_ifb rfl ?_ ?_
  · intro h1
    refine w_seq ?_
    refine w_region ?_
    refine t_move rfl ?_ rfl
    refine t_assign rfl ?_ rfl
    refine t_done ?_
    refine x_seq ?_
    refine w_ret ?_
    refine x_then_ret ?_
    refine x_ret1 rfl rfl ?_
    have h1' : inR i 0 1000000000000 = false := by simpa using h1
    obtain ⟨fp, hO⟩ := (S.mono X0.size).head
    have hv : vint i = [] := by rw [vint, h1']; rfl
    exact ⟨_, fp, rfl, by rw [hv, List.append_nil]; exact hO, ext_trans X0 B⟩
  · intro h1
    have h1' : inR i 0 1000000000000 = true := by simpa using h1
    have r1 := inR_iff.1 h1'
    have hlen := vint_len i
    obtain ⟨n, rfl⟩ : ∃ n : Nat, i = n := ⟨i.toNat, by omega⟩
    have hv : vint n = venc n := by rw [vint, if_pos h1']; rfl
    refine w_skip ?_
    refine x_seq ?_
    refine w_seq ?_
    refine w_block ?_
    refine w_loop (X := Nat × List UInt8 × Value) (fun x wq => (fun m acc v => m ≤ 1000000000000 ∧ acc ++ venc m = vint n ∧ Below w.heap.size w wq ∧ Sep w.heap.size wq [slO byteT 5 v (b ++ acc)]) x.1 x.2.1 x.2.2) (fun x => (fun m acc v => [(1, I ((m : Int))), (5, v), (4, .slice none 0 0)]) x.1 x.2.1 x.2.2) (fun x => (fun m acc v => m) x.1 x.2.1 x.2.2) (n, [], v8) ?_ ⟨rfl, rfl, rfl, trivial⟩ ?_
    · exact ⟨by omega, by rw [hv]; rfl, B, by simpa using S⟩
    · rintro ⟨m, acc, v⟩ w20 hI
      try dsimp only at hI ⊢
      obtain ⟨hk, ha, B, S⟩ := hI
      have hal : acc.length ≤ 6 := by have := congrArg List.length ha; rw [List.length_append] at this; omega
      have hbl : (b ++ acc).length ≤ 950000000 := by rw [List.length_append]; omega
      refine w_seq ?_
      refine w_seq ?_
      refine w_region ?_
      refine t_move rfl ?_ rfl
      refine t_gtr rfl rfl ?_ rfl
      refine t_done ?_
      refine x_seq ?_
      refine w_if rfl ?_ ?_
      · intro hlt
        refine w_skip ?_
        refine x_seq ?_
        refine w_block ?_
        refine w_seq ?_
        refine w_region ?_
        refine t_move rfl ?_ rfl
        refine t_move rfl ?_ rfl
        refine t_and127 rfl rfl ?_ rfl
        refine t_or128 rfl rfl (by omega) ?_ rfl
        refine t_conv Try.underlying3 Try.underlying5 rfl ?_ rfl
        refine t_lit (T := byteT) (l := [bt (((m : Int) % 128) + 128)]) (css := [[.int .u8 (IntKind.u8.wrap (((m : Int) % 128) + 128))]]) byte_flat S (fun w => bs_byte1 _ w) rfl rfl rfl rfl (by simp [maxLen]) (litR_one fun _ => byte_lit _) ?_ rfl rfl
        intro u20 w21 x22 S
        have B := bx Hb B x22
        have hR := S.sl
        have S := S.f1
        refine t_cat byte_flat e_byte S hR rfl rfl rfl (by first | omega | (simp [-List.length_flatMap]; omega)) (by (simp [maxLen, -List.length_flatMap]; try omega)) ?_ rfl
        intro v21 w23 x24 S
        have B := B.trans x24
        clear hR
        have S := S.f1
        have S := S.tail
        refine t_assign rfl ?_ rfl
        refine t_done ?_
        refine x_seq ?_
        refine w_region ?_
        refine t_move rfl ?_ rfl
        refine t_shr7 rfl rfl ?_ rfl
        refine t_assign rfl ?_ rfl
        refine t_done ?_
        refine x_block_normal ?_
        refine x_round (I := (fun x wq => (fun m acc v => m ≤ 1000000000000 ∧ acc ++ venc m = vint n ∧ Below w.heap.size w wq ∧ Sep w.heap.size wq [slO byteT 5 v (b ++ acc)]) x.1 x.2.1 x.2.2)) (F := (fun x => (fun m acc v => [(1, I ((m : Int))), (5, v), (4, .slice none 0 0)]) x.1 x.2.1 x.2.2)) (μ := (fun x => (fun m acc v => m) x.1 x.2.1 x.2.2)) (m / 128, acc ++ [bt ((m : Int) % 128 + 128)], v21) ?_ (by exact ⟨rfl, rfl, rfl, trivial⟩) (by (try dsimp only); omega)
        try dsimp only
        refine ⟨by omega, ?_, B, by simpa using S⟩
        rw [List.append_assoc, ← ha, venc_big (n := m) (by omega)]
        rfl
      · intro hge
        refine w_exit ?_
        refine x_then_exit ?_
        refine x_then_exit ?_
        refine x_block_exit ?_
        refine x_seq ?_
        refine w_seq ?_
        refine w_region ?_
        refine t_move rfl ?_ rfl
        refine t_move rfl ?_ rfl
        refine t_conv Try.underlying3 Try.underlying5 rfl ?_ rfl
        refine t_lit (T := byteT) (l := [bt (m : Int)]) (css := [[.int .u8 (IntKind.u8.wrap (m : Int))]]) byte_flat S (fun w => bs_byte1 _ w) rfl rfl rfl rfl (by simp [maxLen]) (litR_one fun _ => byte_lit _) ?_ rfl rfl
        intro u27 w25 x26 S
        have B := bx Hb B x26
        have hR := S.sl
        have S := S.f1
        refine t_cat byte_flat e_byte S hR rfl rfl rfl (by first | omega | (simp [-List.length_flatMap]; omega)) (by (simp [maxLen, -List.length_flatMap]; try omega)) ?_ rfl
        intro v28 w27 x28 S
        have B := B.trans x28
        clear hR
        have S := S.f1
        have S := S.tail
        refine t_assign rfl ?_ rfl
        refine t_done ?_
        refine x_seq ?_
        refine w_ret ?_
        refine x_ret1 rfl rfl ?_
        obtain ⟨fp, hO⟩ := (S.mono X0.size).head
        refine ⟨_, fp, rfl, ?_, ext_trans X0 B⟩
        rw [← ha, venc_small (by omega), ← List.append_assoc]
        exact hO

theorem flat_vint (l : List Int) : (l.flatMap vint).length ≤ 6 * l.length := len_flat_le _ 6 l fun x _ => vint_len x
theorem flat_take {α β : Type} (g : α → List β) (l : List α) (k : Nat) : ((l.take k).flatMap g).length ≤ (l.flatMap g).length := by
  conv => rhs; rw [← List.take_append_drop k l]
  rw [List.flatMap_append, List.length_append]; omega

theorem impl_appendInts (b : List UInt8) (v : Value) (l : List Int) (u : Value) (w : World) (h : SlR byteT w v b) (h' : SlR intT w u l) (hz : b.length ≤ 500000000) (hz' : l.length ≤ 16777216) (hne : l ≠ []) : Calls Try.prog 159 #[v, u] w fun e w' => ∃ v fp, e = .returned v ∧ SlO byteT 5 w.heap.size w' v (b ++ l.flatMap vint) fp ∧ Below w.heap.size w w' := by
  have hfl := flat_vint l
  have hpos : 0 < l.length := List.length_pos_iff.2 hne
  have X0 := Below.refl w.heap.size w
  refine enter Try.func159 rfl Try.ntmps159 rfl ?_
  refine w_seq ?_
  refine w_region ?_
  have S := Sep.nil w
  have B := Below.refl w.heap.size w
  have Hb := Nat.le_refl w.heap.size
  refine t_assign rfl ?_ rfl
  refine t_done ?_
  refine x_seq ?_
  refine w_seq ?_
  refine w_seq ?_
  refine w_region ?_
  refine t_move rfl ?_ rfl
  refine t_len e_int (by assumption) rfl rfl ?_ rfl
  refine t_move rfl ?_ rfl
  refine t_done ?_
  refine x_seq ?_
  refine w_block ?_
  refine w_loop (X := Nat × Value) (fun x wq => (fun k q => k ≤ l.length ∧ SlR byteT wq q (b ++ (l.take k).flatMap vint) ∧ (k ≠ 0 → ∃ fp, SlO byteT 5 w.heap.size wq q (b ++ (l.take k).flatMap vint) fp) ∧ Below w.heap.size w wq ∧ Sep w.heap.size wq []) x.1 x.2) (fun x => (fun k q => [(9, I ((k : Int))), (0, q), (4, .slice none 0 0), (7, u), (8, I ((l.length : Int)))]) x.1 x.2) (fun x => (fun k q => l.length - k) x.1 x.2) (0, v) ?_ ⟨rfl, rfl, rfl, rfl, rfl, trivial⟩ ?_
  · exact ⟨by omega, by simpa using h, fun q => absurd rfl q, B, S⟩
  · rintro ⟨k, q⟩ w29 hI
    try dsimp only at hI ⊢
    obtain ⟨hk, hq, hO, B, S⟩ := hI
    have hft := flat_take vint l k
    have hbl : (b ++ (l.take k).flatMap vint).length ≤ 800000000 := by rw [List.length_append]; omega
    refine w_seq ?_
    refine w_region ?_
    refine t_lss rfl rfl ?_ rfl
    refine t_done ?_
    refine x_seq ?_
    refine w_seq ?_
    refine w_if rfl ?_ ?_
    · intro hlt
      refine w_skip ?_
      refine x_seq ?_
      refine w_seq ?_
      refine w_block ?_
      refine w_seq ?_
      refine w_region ?_
      obtain ⟨e11, he11⟩ : ∃ e, (l)[k]? = some e := getx (by omega)
      refine t_idx e_int (k := k) (by assumption) he11 B rfl rfl (by first | rfl | omega) ?_ rfl
      intro p11 hp11
      refine t_ldi (by assumption) ab_int B rfl ?_ rfl
      refine t_assign rfl ?_ rfl
      refine t_done ?_
      refine x_seq ?_
      refine w_region ?_
      refine t_move rfl ?_ rfl
      refine t_move rfl ?_ rfl
      refine t_call Try.call160 rfl (impl_AppendVarint _ _ _ _ (by first | assumption | exact SlR.below (by assumption) B) (by first | omega | (simp only [List.nil_append]; omega))) ?_ rfl rfl
      rintro e w30 ⟨v15, fpv15, rfl, hOv15, x31⟩
      refine ⟨_, rfl, x31, ?_⟩
      have S := S.add (o := slO _ _ _ _) x31 hOv15
      have B := bx Hb B x31
      refine t_assign rfl ?_ rfl
      refine t_done ?_
      refine x_block_normal ?_
      refine x_seq ?_
      refine w_region ?_
      refine t_add rfl rfl (by omega) ?_ rfl
      refine t_move rfl ?_ rfl
      refine t_done ?_
      have hR := S.sl
      have hO2 := S.head
      have S := S.tail
      refine x_round (I := (fun x wq => (fun k q => k ≤ l.length ∧ SlR byteT wq q (b ++ (l.take k).flatMap vint) ∧ (k ≠ 0 → ∃ fp, SlO byteT 5 w.heap.size wq q (b ++ (l.take k).flatMap vint) fp) ∧ Below w.heap.size w wq ∧ Sep w.heap.size wq []) x.1 x.2)) (F := (fun x => (fun k q => [(9, I ((k : Int))), (0, q), (4, .slice none 0 0), (7, u), (8, I ((l.length : Int)))]) x.1 x.2)) (μ := (fun x => (fun k q => l.length - k) x.1 x.2)) (k + 1, v15) ?_ (by exact ⟨rfl, rfl, rfl, rfl, rfl, trivial⟩) (by (try dsimp only); omega)
      try dsimp only
      rw [flat_snoc he11, ← List.append_assoc]
      exact ⟨by omega, hR, fun _ => hO2, B, S⟩
    · intro hge
      refine w_exit ?_
      refine x_then_exit ?_
      refine x_then_exit ?_
      refine x_block_exit ?_
      refine x_seq ?_
      refine w_seq ?_
      refine w_region ?_
      refine t_move rfl ?_ rfl
      refine t_assign rfl ?_ rfl
      refine t_done ?_
      refine x_seq ?_
      refine w_ret ?_
      refine x_ret1 rfl rfl ?_
      have : k = l.length := by omega
      subst this
      rw [List.take_length] at hO
      obtain ⟨fp, hO⟩ := hO (by omega)
      exact ⟨_, fp, rfl, hO.mono X0.size, ext_trans X0 B⟩
theorem spec_EncodeInts (l : List Int) (u : Value) (w : World) (h' : SlR intT w u l) (hz' : l.length ≤ 16777216) : Calls Try.prog 107 #[u] w fun e w' => ∃ v fp, e = .returned v ∧ SlO byteT 5 w.heap.size w' v (l.flatMap vint) fp ∧ Below w.heap.size w w' := by
  have hfl := flat_vint l
  have X0 := Below.refl w.heap.size w
  refine enter Try.func107 rfl Try.ntmps107 rfl ?_
  refine w_seq ?_
  refine w_region ?_
  have S := Sep.nil w
  have B := Below.refl w.heap.size w
  have Hb := Nat.le_refl w.heap.size
  refine t_assign rfl ?_ rfl
  refine t_done ?_
  refine x_seq ?_
  refine w_seq ?_
  refine w_region ?_
  refine t_lit (T := byteT) (css := []) (l := []) byte_flat S bs_byte0 rfl rfl rfl rfl (Nat.zero_le _) litR_nil ?_ rfl rfl
  intro u5 w32 x33 S
  have B := bx Hb B x33
  refine t_assign rfl ?_ rfl
  refine t_done ?_
  refine x_seq ?_
  refine w_seq ?_
  refine w_seq ?_
  refine w_region ?_
  refine t_assign rfl ?_ rfl
  refine t_done ?_
  refine x_seq ?_
  refine w_block ?_
  refine w_loop (X := Nat × Value) (fun x wq => (fun k v => k ≤ l.length ∧ Below w.heap.size w wq ∧ Sep w.heap.size wq [slO byteT 5 v ((l.take k).flatMap vint)]) x.1 x.2) (fun x => (fun k v => [(4, I ((k : Int))), (3, v), (0, u), (2, .slice none 0 0)]) x.1 x.2) (fun x => (fun k v => l.length - k) x.1 x.2) (0, u5) ?_ ⟨rfl, rfl, rfl, rfl, trivial⟩ ?_
  · exact ⟨by omega, B, S⟩
  · rintro ⟨k, v⟩ w34 hI
    try dsimp only at hI ⊢
    obtain ⟨hk, B, S⟩ := hI
    have hft := flat_take vint l k
    refine w_seq ?_
    refine w_seq ?_
    refine w_region ?_
    refine t_move rfl ?_ rfl
    refine t_move rfl ?_ rfl
    refine t_len e_int (by assumption) rfl rfl ?_ rfl
    refine t_lss rfl rfl ?_ rfl
    refine t_done ?_
    refine x_seq ?_
    refine w_if rfl ?_ ?_
    · intro hlt
      refine w_skip ?_
      refine x_seq ?_
      refine w_seq ?_
      refine w_block ?_
      refine w_region ?_
      refine t_move rfl ?_ rfl
      refine t_move rfl ?_ rfl
      refine t_move rfl ?_ rfl
      obtain ⟨e15, he15⟩ : ∃ e, (l)[k]? = some e := getx (by omega)
      refine t_idx e_int (k := k) (by assumption) he15 B rfl rfl (by first | rfl | omega) ?_ rfl
      intro p15 hp15
      refine t_ldi (by assumption) ab_int B rfl ?_ rfl
      refine t_call Try.call157 rfl (spec_AppendVarint _ _ _ _ (S.sl) (by first | omega | (simp only [List.nil_append]; omega))) ?_ rfl rfl
      rintro e w35 ⟨v17, fpv17, rfl, hOv17, x36⟩
      refine ⟨_, rfl, x36, ?_⟩
      have S := S.add (o := slO _ _ _ _) x36 hOv17
      have B := bx Hb B x36
      refine t_assign rfl ?_ rfl
      refine t_done ?_
      refine x_block_normal ?_
      refine x_seq ?_
      refine w_region ?_
      refine t_move rfl ?_ rfl
      refine t_add rfl rfl (by omega) ?_ rfl
      refine t_assign rfl ?_ rfl
      refine t_done ?_
      have S := S.f1
      have S := S.tail
      refine x_round (I := (fun x wq => (fun k v => k ≤ l.length ∧ Below w.heap.size w wq ∧ Sep w.heap.size wq [slO byteT 5 v ((l.take k).flatMap vint)]) x.1 x.2)) (F := (fun x => (fun k v => [(4, I ((k : Int))), (3, v), (0, u), (2, .slice none 0 0)]) x.1 x.2)) (μ := (fun x => (fun k v => l.length - k) x.1 x.2)) (k + 1, v17) ?_ (by exact ⟨rfl, rfl, rfl, rfl, trivial⟩) (by (try dsimp only); omega)
      try dsimp only
      rw [flat_snoc he15]
      exact ⟨by omega, B, S⟩
    · intro hge
      refine w_exit ?_
      refine x_then_exit ?_
      refine x_then_exit ?_
      refine x_block_exit ?_
      refine x_seq ?_
      refine w_seq ?_
      refine w_region ?_
      refine t_move rfl ?_ rfl
      refine t_assign rfl ?_ rfl
      refine t_done ?_
      refine x_seq ?_
      refine w_ret ?_
      refine x_ret1 rfl rfl ?_
      have : k = l.length := by omega
      subst this
      rw [List.take_length] at S
      obtain ⟨fp, hO⟩ := (S.mono X0.size).head
      exact ⟨_, fp, rfl, hO, ext_trans X0 B⟩
def hopEnc (x : Hop) : List UInt8 := if validHop x then (piH x).flatMap vint else []
theorem impl_AppendHop (b : List UInt8) (v : Value) (x : Hop) (w : World) (h : SlR byteT w v b) (hz : b.length ≤ 400000000) : Calls Try.prog 161 #[v, .agg #[I x.ia, I x.ing, I x.eg, I x.exp, I x.mac]] w fun e w' => ∃ v fp, e = .returned v ∧ SlO byteT 5 w.heap.size w' v (b ++ hopEnc x) fp ∧ Below w.heap.size w w' := by
  have hx := hop_mkv w x
  have hpl : (piH x).length = 5 := rfl
  have X0 := Below.refl w.heap.size w
  refine enter Try.func161 rfl Try.ntmps161 rfl ?_
  refine w_seq ?_
  refine w_region ?_
  refine t_boxr (by assumption) rfl ?_ rfl rfl
  intro p3 w37 x38 hp3
  replace h := h.below x38
  replace hx := hx.below x38
  have X0 := ext_trans X0 x38
  have S := Sep.nil w37
  have B := Below.refl w37.heap.size w37
  have Hb := Nat.le_refl w37.heap.size
  refine t_assign rfl ?_ rfl
  refine t_done ?_
  refine x_seq ?_
  refine w_seq ?_
  refine w_seq ?_
  refine w_region ?_
  refine t_lda (by assumption) ab_hop sb_hop B rfl ?_ rfl
  intro v5 hv5
  obtain rfl := hop_va hv5
  refine t_callx Try.call175 rfl (impl_ValidHop _ _) ?_ rfl rfl
  intro w39 x40
  have B := bx Hb B x40
  have S := S.below x40
  refine t_notb rfl ?_ rfl
  refine t_done ?_
  refine x_seq ?_
  refine w_ifb rfl ?_ ?_
  · intro h1
    have h1' : validHop x = false := by simpa using h1
    refine w_seq ?_
    refine w_region ?_
    refine t_move rfl ?_ rfl
    refine t_call Try.call104 rfl (impl_copyBytes _ _ _ (by first | assumption | exact SlR.below (by assumption) B) (by omega)) ?_ rfl rfl
    rintro e w41 ⟨v9, fpv9, rfl, hOv9, x42⟩
    refine ⟨_, rfl, x42, ?_⟩
    have S := S.add (o := slO _ _ _ _) x42 hOv9
    have B := bx Hb B x42
    refine t_assign rfl ?_ rfl
    refine t_done ?_
    refine x_seq ?_
    refine w_ret ?_
    refine x_then_ret ?_
    refine x_ret1 rfl rfl ?_
    obtain ⟨fp, hO⟩ := (S.mono X0.size).head
    exact ⟨_, fp, rfl, by rw [hopEnc, h1', if_neg (by simp), List.append_nil]; exact hO, ext_trans X0 B⟩
  · intro h1
    have h1' : validHop x = true := by simpa using h1
    refine w_skip ?_
    refine x_seq ?_
    refine w_seq ?_
    refine w_draw (.st .take 0 (.st .take 2 (.st .run 1 (.st .run 3 (.st .run 4 (.st .take 5 .done)))))) mixed (by kernel_rfl) ?_
    intro w43 x44
    have B := bx Hb B x44
    have S := S.below x44
    refine t_move rfl ?_ rfl
    refine t_lda (by assumption) ab_hop sb_hop B rfl ?_ rfl
    intro v12 hv12
    obtain rfl := hop_va hv12
    refine t_call Try.call104 rfl (impl_copyBytes _ _ _ (by first | assumption | exact SlR.below (by assumption) B) (by omega)) ?_ rfl rfl
    rintro e w45 ⟨v11, fpv11, rfl, hOv11, x46⟩
    refine ⟨_, rfl, x46, ?_⟩
    have S := S.add (o := slO _ _ _ _) x46 hOv11
    have B := bx Hb B x46
    refine t_call Try.call185 rfl (impl_hopInts _ _) ?_ rfl rfl
    rintro e w47 ⟨v13, fpv13, rfl, hOv13, x48⟩
    refine ⟨_, rfl, x48, ?_⟩
    have S := S.add (o := slO _ _ _ _) x48 hOv13
    have B := bx Hb B x48
    refine t_call Try.call159 rfl (impl_appendInts _ _ _ _ _ (S.tail.sl) (S.sl) (by omega) (by first | omega | (simp; done) | (simp; omega)) (by first | (simp; done) | (simp [piH]; done))) ?_ rfl rfl
    rintro e w49 ⟨v14, fpv14, rfl, hOv14, x50⟩
    refine ⟨_, rfl, x50, ?_⟩
    have S := S.add (o := slO _ _ _ _) x50 hOv14
    have B := bx Hb B x50
    refine t_assign rfl ?_ rfl
    refine t_done' ?_
    refine x_seq ?_
    refine w_ret ?_
    refine x_ret1 rfl rfl ?_
    obtain ⟨fp, hO⟩ := (S.mono X0.size).head
    exact ⟨_, fp, rfl, by rw [hopEnc, h1', if_pos rfl]; exact hO, ext_trans X0 B⟩

def pathEnc (p : Path) : List UInt8 := if encPath p then vint (p.length : Int) ++ (pathInts p).flatMap vint else []
theorem enc_valid {p : Path} {k j : Nat} {x : Part} {y : Hop} (h : encPath p = true) (hx : p[k]? = some x) (hy : x.hops[j]? = some y) : validHop y = true := by
  unfold encPath at h
  rw [Bool.and_eq_true, List.all_eq_true] at h
  have h2 := h.2 x (List.mem_of_getElem? hx)
  unfold encPart encHops at h2
  simp only [Bool.and_eq_true, List.all_eq_true] at h2
  exact h2.2.2.2 y (List.mem_of_getElem? hy)

theorem impl_AppendPath (b : List UInt8) (v : Value) (p : Path) (u : Value) (w : World) (h : SlR byteT w v b) (h' : VA pathT w u p) (hz : b.length ≤ 100000000) (hz' : sz_path p ≤ 1048576) (hl : lenOk_path p) (hg : rng_path p) : Calls Try.prog 112 #[v, u] w fun e w' => ∃ v fp, e = .returned v ∧ SlO byteT 5 w.heap.size w' v (b ++ pathEnc p) fp ∧ Below w.heap.size w w' := by
  have hT : (intsOf piP piH p).length ≤ 5 * sz_path p := pathInts_len p
  have hpl : List.length p ≤ sz_path p := by show List.length p ≤ List.length p + _; omega
  have hv0 := vint_len (List.length p : Int)
  have X0 := Below.refl w.heap.size w
  refine enter Try.func112 rfl Try.ntmps112 rfl ?_
  refine w_seq ?_
  refine w_region ?_
  refine t_boxr (by assumption) rfl ?_ rfl rfl
  intro p3 w51 x52 hp3
  replace h := h.below x52
  replace h' := h'.below x52
  have X0 := ext_trans X0 x52
  have S := Sep.nil w51
  have B := Below.refl w51.heap.size w51
  have Hb := Nat.le_refl w51.heap.size
  refine t_assign rfl ?_ rfl
  refine t_done ?_
  refine x_seq ?_
  refine w_seq ?_
  refine w_region ?_
  refine t_move rfl ?_ rfl
  refine t_call Try.call104 rfl (impl_copyBytes _ _ _ (by first | assumption | exact SlR.below (by assumption) B) (by omega)) ?_ rfl rfl
  rintro e w53 ⟨v11, fpv11, rfl, hOv11, x54⟩
  refine ⟨_, rfl, x54, ?_⟩
  have S := S.add (o := slO _ _ _ _) x54 hOv11
  have B := bx Hb B x54
  refine t_assign rfl ?_ rfl
  refine t_done ?_
  refine x_seq ?_
  refine w_seq ?_
  refine w_seq ?_
  refine w_region ?_
  refine t_lda (by assumption) ab_path sb_path B rfl ?_ rfl
  intro v12 hv12
  obtain ⟨v12_0, rfl, hv12_0⟩ := path_va hv12
  refine t_callx Try.call98 rfl (va1 (by first | assumption | exact VA.below (by assumption) B) fun cs h => impl_EncodablePath _ cs _ h (by omega) (by assumption) (by assumption)) ?_ rfl rfl
  intro w55 x56
  have B := bx Hb B x56
  have S := S.below x56
  refine t_notb rfl ?_ rfl
  refine t_done ?_
  refine x_seq ?_
  refine w_ifb rfl ?_ ?_
  · intro h1
    have h1' : encPath p = false := by simpa using h1
    refine w_seq ?_
    refine w_region ?_
    refine t_move rfl ?_ rfl
    refine t_assign rfl ?_ rfl
    refine t_done ?_
    refine x_seq ?_
    refine w_ret ?_
    refine x_then_ret ?_
    refine x_ret1 rfl rfl ?_
    obtain ⟨fp, hO⟩ := (S.mono X0.size).head
    exact ⟨_, fp, rfl, by rw [pathEnc, h1', if_neg (by simp), List.append_nil]; exact hO, ext_trans X0 B⟩
  · intro h1
    have h1' : encPath p = true := by simpa using h1
    refine w_skip ?_
    refine x_seq ?_
    refine w_seq ?_
    refine w_region ?_
    refine t_move rfl ?_ rfl
    refine t_fld ln_path_0 (by assumption) fb_path_0 rfl ?_ rfl
    intro p17 hp17
    refine t_lds (by assumption) ab_s_part B rfl ?_ rfl
    intro v18 hv18
    refine t_len e_part (by assumption) rfl rfl ?_ rfl
    refine t_call Try.call160 rfl (impl_AppendVarint _ _ _ _ (S.sl) (by first | omega | (simp only [List.nil_append]; omega))) ?_ rfl rfl
    rintro e w57 ⟨v20, fpv20, rfl, hOv20, x58⟩
    refine ⟨_, rfl, x58, ?_⟩
    have S := S.add (o := slO _ _ _ _) x58 hOv20
    have B := bx Hb B x58
    refine t_assign rfl ?_ rfl
    refine t_done ?_
    refine x_seq ?_
    refine w_seq ?_
    refine w_seq ?_
    refine w_region ?_
    refine t_fld ln_path_0 (by assumption) fb_path_0 rfl ?_ rfl
    intro p21 hp21
    refine t_lds (by assumption) ab_s_part B rfl ?_ rfl
    intro v22 hv22
    refine t_len e_part (by assumption) rfl rfl ?_ rfl
    refine t_move rfl ?_ rfl
    refine t_done ?_
    refine x_seq ?_
    refine w_block ?_
    refine w_loop (X := Nat × Value) (fun x wq => (fun k v => k ≤ List.length p ∧ Below w51.heap.size w51 wq ∧ Sep w51.heap.size wq [slO byteT 5 v (b ++ vint (List.length p : Int) ++ (intsOf piP piH (p.take k)).flatMap vint)]) x.1 x.2) (fun x => (fun k v => [(24, I ((k : Int))), (5, v), (4, .slice none 0 0), (22, v22), (23, I ((p.length : Int)))]) x.1 x.2) (fun x => (fun k v => List.length p - k) x.1 x.2) (0, v20) ?_ ⟨rfl, rfl, rfl, rfl, rfl, trivial⟩ ?_
    · exact ⟨by omega, B, by simpa [intsOf] using S.f1.tail⟩
    · rintro ⟨k, v⟩ w59 hI
      try dsimp only at hI ⊢
      obtain ⟨hk, B, S⟩ := hI
      refine w_seq ?_
      refine w_region ?_
      refine t_lss rfl rfl ?_ rfl
      refine t_done ?_
      refine x_seq ?_
      refine w_seq ?_
      refine w_if rfl ?_ ?_
      · intro hlt
        obtain ⟨e26, he26⟩ : ∃ e, p[k]? = some e := getx (by omega)
        have hml := mem_len_path (List.mem_of_getElem? he26)
        have hle := take_len_le (f := piP) (g := piH) he26 e26.hops.length
        have hp4 : (piP e26).length = 4 := rfl
        have hf1 := flat_vint (intsOf piP piH (p.take k))
        have hbl : (b ++ vint (List.length p : Int) ++ (intsOf piP piH (p.take k)).flatMap vint).length ≤ 200000000 := by rw [List.length_append, List.length_append]; omega
        refine w_skip ?_
        refine x_seq ?_
        refine w_seq ?_
        refine w_block ?_
        refine w_seq ?_
        refine w_region ?_
        refine t_idx e_part (k := k) (by assumption) he26 B rfl rfl (by first | rfl | omega) ?_ rfl
        intro p26 hp26
        refine t_lda (by assumption) ab_part sb_part B rfl ?_ rfl
        intro v27 hv27
        obtain ⟨v27_3, rfl, hv27_3⟩ := part_va hv27
        refine t_alloc S z_part rfl ?_ rfl rfl
        intro g7 w60 x61 S
        have B := bx Hb B x61
        refine t_stn S sb_part rfl rfl rfl rfl (by intro zz hu; have hu : zz ∈ ([I e26.kind, I e26.ts, I e26.beta, v27_3] : List Value) := hu; simp only [List.mem_cons, List.not_mem_nil, or_false] at hu; rcases hu with rfl | rfl | rfl | rfl <;> first | rfl | exact (SlR.cells (by first | assumption | exact S.tail.sl | exact S.tail.tail.sl | exact S.tail.tail.tail.sl | exact S.tail.tail.tail.tail.sl | exact S.tail.tail.tail.tail.tail.sl | exact S.tail.tail.tail.tail.tail.tail.sl | exact S.tail.tail.tail.tail.tail.tail.tail.sl | exact S.tail.tail.tail.tail.tail.tail.tail.tail.sl)).2) ?_
        intro w62 b63 S
        have B := B.trans b63
        refine t_done ?_
        refine x_seq ?_
        refine w_seq ?_
        refine w_region ?_
        refine t_move rfl ?_ rfl
        refine t_fldx fb_part_0 rfl rfl ?_ rfl
        refine t_bx1 S.box ab_int rfl rfl ?_ rfl
        refine t_fldx fb_part_1 rfl rfl ?_ rfl
        refine t_bx1 S.box ab_int rfl rfl ?_ rfl
        refine t_fldx fb_part_2 rfl rfl ?_ rfl
        refine t_bx1 S.box ab_int rfl rfl ?_ rfl
        refine t_fldx fb_part_3 rfl rfl ?_ rfl
        refine t_bx1 S.box ab_s_hop rfl rfl ?_ rfl
        refine t_len e_hop (by assumption) rfl rfl ?_ rfl
        refine t_lit (T := intT) (l := [e26.kind, e26.ts, e26.beta, (e26.hops.length : Int)]) (css := ([e26.kind, e26.ts, e26.beta, (e26.hops.length : Int)]).map fun a => [I a]) int_flat S (fun w => bs_int4 _ _ _ _ w) rfl rfl rfl rfl (by simp [maxLen]) (litR_int _) ?_ rfl rfl
        intro u38 w64 x65 S
        have B := bx Hb B x65
        refine t_call Try.call159 rfl (impl_appendInts _ _ _ _ _ (S.tail.tail.sl) (S.sl) (by omega) (by first | omega | (simp; done) | (simp; omega)) (by first | (simp; done) | (simp [piH]; done))) ?_ rfl rfl
        rintro e w66 ⟨v39, fpv39, rfl, hOv39, x67⟩
        refine ⟨_, rfl, x67, ?_⟩
        have S := S.add (o := slO _ _ _ _) x67 hOv39
        have B := bx Hb B x67
        refine t_assign rfl ?_ rfl
        refine t_done ?_
        refine x_seq ?_
        refine w_seq ?_
        refine w_region ?_
        refine t_fldx fb_part_3 rfl rfl ?_ rfl
        refine t_bx1 S.tail.tail.box ab_s_hop rfl rfl ?_ rfl
        refine t_len e_hop (by assumption) rfl rfl ?_ rfl
        refine t_move rfl ?_ rfl
        refine t_done ?_
        refine x_seq ?_
        refine w_block ?_
        refine w_loop (X := Nat × Value) (fun x wq => (fun j u => j ≤ e26.hops.length ∧ Below w51.heap.size w51 wq ∧ Sep w51.heap.size wq [slO byteT 5 u (b ++ vint (List.length p : Int) ++ (intsOf piP piH (p.take k)).flatMap vint ++ (piP e26).flatMap vint ++ ((e26.hops.take j).flatMap piH).flatMap vint)]) x.1 x.2) (fun x => (fun j u => [(43, I ((j : Int))), (5, u), (24, I ((k : Int))), (4, .slice none 0 0), (22, v22), (23, I ((p.length : Int))), (41, v27_3), (42, I ((e26.hops.length : Int)))]) x.1 x.2) (fun x => (fun j u => e26.hops.length - j) x.1 x.2) (0, v39) ?_ ⟨rfl, rfl, rfl, rfl, rfl, rfl, rfl, rfl, trivial⟩ ?_
        · refine ⟨by omega, B, ?_⟩
          rw [List.take_zero, List.flatMap_nil, List.flatMap_nil, List.append_nil]
          exact S.rm1.rm1.rm1
        · rintro ⟨j, u⟩ w68 hI
          try dsimp only at hI ⊢
          obtain ⟨hj, B, S⟩ := hI
          refine w_seq ?_
          refine w_region ?_
          refine t_lss rfl rfl ?_ rfl
          refine t_done ?_
          refine x_seq ?_
          refine w_seq ?_
          refine w_if rfl ?_ ?_
          · intro hlt2
            have hle2 := take_len_le (f := piP) (g := piH) he26 j
            have hf2 := flat_vint (piP e26)
            have hf3 := flat_vint ((e26.hops.take j).flatMap piH)
            have hbl2 : (b ++ vint (List.length p : Int) ++ (intsOf piP piH (p.take k)).flatMap vint ++ (piP e26).flatMap vint ++ ((e26.hops.take j).flatMap piH).flatMap vint).length ≤ 400000000 := by rw [List.length_append, List.length_append, List.length_append, List.length_append]; omega
            obtain ⟨e45, he45⟩ : ∃ e, e26.hops[j]? = some e := getx (by omega)
            have hvv := enc_valid h1' he26 he45
            refine w_skip ?_
            refine x_seq ?_
            refine w_seq ?_
            refine w_block ?_
            refine w_seq ?_
            refine w_region ?_
            refine t_idx e_hop (k := j) (by assumption) he45 B rfl rfl (by first | rfl | omega) ?_ rfl
            intro p45 hp45
            refine t_lda (by assumption) ab_hop sb_hop B rfl ?_ rfl
            intro v46 hv46
            obtain rfl := hop_va hv46
            refine t_alloc S z_hop rfl ?_ rfl rfl
            intro g9 w69 x70 S
            have B := bx Hb B x70
            refine t_stn S sb_hop rfl rfl rfl rfl (by simp [Value.oneCell']) ?_
            intro w71 b72 S
            have B := B.trans b72
            refine t_done ?_
            refine x_seq ?_
            refine w_region ?_
            refine t_move rfl ?_ rfl
            refine t_bxn S.box ab_hop sb_hop rfl rfl ?_ rfl
            refine t_call Try.call161 rfl (impl_AppendHop _ _ _ _ (S.tail.sl) (by omega)) ?_ rfl rfl
            rintro e w73 ⟨v49, fpv49, rfl, hOv49, x74⟩
            refine ⟨_, rfl, x74, ?_⟩
            have S := S.add (o := slO _ _ _ _) x74 hOv49
            have B := bx Hb B x74
            refine t_assign rfl ?_ rfl
            refine t_done ?_
            refine x_block_normal ?_
            refine x_seq ?_
            refine w_region ?_
            refine t_add rfl rfl (by omega) ?_ rfl
            refine t_move rfl ?_ rfl
            refine t_done ?_
            have S := S.f1
            have S := S.tail
            have S := S.f1
            have S := S.tail
            refine x_round (I := (fun x wq => (fun j u => j ≤ e26.hops.length ∧ Below w51.heap.size w51 wq ∧ Sep w51.heap.size wq [slO byteT 5 u (b ++ vint (List.length p : Int) ++ (intsOf piP piH (p.take k)).flatMap vint ++ (piP e26).flatMap vint ++ ((e26.hops.take j).flatMap piH).flatMap vint)]) x.1 x.2)) (F := (fun x => (fun j u => [(43, I ((j : Int))), (5, u), (24, I ((k : Int))), (4, .slice none 0 0), (22, v22), (23, I ((p.length : Int))), (41, v27_3), (42, I ((e26.hops.length : Int)))]) x.1 x.2)) (μ := (fun x => (fun j u => e26.hops.length - j) x.1 x.2)) (j + 1, v49) ?_ (by exact ⟨rfl, rfl, rfl, rfl, rfl, rfl, rfl, rfl, trivial⟩) (by (try dsimp only); omega)
            try dsimp only
            refine ⟨by omega, B, ?_⟩
            rw [flat_snoc he45, List.flatMap_append, ← List.append_assoc]
            rw [hopEnc, if_pos hvv] at S
            exact S
          · intro hge2
            have : j = e26.hops.length := by omega
            subst this
            rw [List.take_length] at S
            refine w_exit ?_
            refine x_then_exit ?_
            refine x_then_exit ?_
            refine x_block_exit ?_
            refine x_block_normal ?_
            refine x_seq ?_
            refine w_region ?_
            refine t_add rfl rfl (by omega) ?_ rfl
            refine t_move rfl ?_ rfl
            refine t_done ?_
            refine x_round (I := (fun x wq => (fun k v => k ≤ List.length p ∧ Below w51.heap.size w51 wq ∧ Sep w51.heap.size wq [slO byteT 5 v (b ++ vint (List.length p : Int) ++ (intsOf piP piH (p.take k)).flatMap vint)]) x.1 x.2)) (F := (fun x => (fun k v => [(24, I ((k : Int))), (5, v), (4, .slice none 0 0), (22, v22), (23, I ((p.length : Int)))]) x.1 x.2)) (μ := (fun x => (fun k v => List.length p - k) x.1 x.2)) (k + 1, u) ?_ (by exact ⟨rfl, rfl, rfl, rfl, rfl, trivial⟩) (by (try dsimp only); omega)
            try dsimp only
            refine ⟨by omega, B, ?_⟩
            rw [take_succ he26, intsOf_snoc, List.flatMap_append, List.flatMap_append, ← List.append_assoc, ← List.append_assoc]
            exact S
      · intro hge
        refine w_exit ?_
        refine x_then_exit ?_
        refine x_then_exit ?_
        refine x_block_exit ?_
        refine x_seq ?_
        refine w_seq ?_
        refine w_region ?_
        refine t_move rfl ?_ rfl
        refine t_assign rfl ?_ rfl
        refine t_done ?_
        refine x_seq ?_
        refine w_ret ?_
        refine x_ret1 rfl rfl ?_
        have : k = List.length p := by omega
        subst this
        rw [List.take_length] at S
        obtain ⟨fp, hO⟩ := (S.mono X0.size).head
        exact ⟨_, fp, rfl, by rw [pathEnc, h1', if_pos rfl, ← List.append_assoc]; exact hO, ext_trans X0 B⟩

theorem spec_AppendPath (b : List UInt8) (v : Value) (p : Path) (u : Value) (w : World) (h : SlR byteT w v b) (h' : VA pathT w u p) (hz : b.length ≤ 100000000) (hz' : sz_path p ≤ 1048576) (hl : lenOk_path p) (hg : rng_path p) : Calls Try.prog 108 #[v, u] w fun e w' => ∃ v fp, e = .returned v ∧ SlO byteT 5 w.heap.size w' v (b ++ pathEnc p) fp ∧ Below w.heap.size w w' := by
  have hT : (pathInts p).length ≤ 5 * sz_path p := pathInts_len p
  have hpl : List.length p ≤ sz_path p := by show List.length p ≤ List.length p + _; omega
  have hv0 := vint_len (List.length p : Int)
  have hf1 := flat_vint (pathInts p)
  have hbl : (b ++ vint (List.length p : Int)).length ≤ 200000000 := by rw [List.length_append]; omega
  have X0 := Below.refl w.heap.size w
  refine enter Try.func108 rfl Try.ntmps108 rfl ?_
  refine w_seq ?_
  refine w_region ?_
  refine t_boxr (by assumption) rfl ?_ rfl rfl
  intro p3 w75 x76 hp3
  replace h := h.below x76
  replace h' := h'.below x76
  have X0 := ext_trans X0 x76
  have S := Sep.nil w75
  have B := Below.refl w75.heap.size w75
  have Hb := Nat.le_refl w75.heap.size
  refine t_assign rfl ?_ rfl
  refine t_done ?_
  refine x_seq ?_
  refine w_seq ?_
  refine w_region ?_
  refine t_lit (T := byteT) (css := []) (l := []) byte_flat S bs_byte0 rfl rfl rfl rfl (Nat.zero_le _) litR_nil ?_ rfl rfl
  intro u6 w77 x78 S
  have B := bx Hb B x78
  refine t_move rfl ?_ rfl
  refine t_cat byte_flat e_byte S (by first | assumption | exact SlR.below (by assumption) B) rfl rfl rfl (by first | omega | (simp [-List.length_flatMap]; omega)) (by (simp [maxLen, -List.length_flatMap]; try omega)) ?_ rfl
  intro v8 w79 x80 S
  have B := B.trans x80
  refine t_assign rfl ?_ rfl
  refine t_done ?_
  refine x_seq ?_
  refine w_seq ?_
  refine w_seq ?_
  refine w_region ?_
  refine t_lda (by assumption) ab_path sb_path B rfl ?_ rfl
  intro v9 hv9
  obtain ⟨v9_0, rfl, hv9_0⟩ := path_va hv9
  refine t_callx Try.call150 rfl (va1 (by first | assumption | exact VA.below (by assumption) B) fun cs h => spec_EncodablePath _ cs _ h (by omega) (by assumption) (by assumption)) ?_ rfl rfl
  intro w81 x82
  have B := bx Hb B x82
  have S := S.below x82
  refine t_notb rfl ?_ rfl
  refine t_done ?_
  refine x_seq ?_
  refine w_ifb rfl ?_ ?_
  · intro h1
    have h1' : encPath p = false := by simpa using h1
    refine w_seq ?_
    refine w_region ?_
    refine t_move rfl ?_ rfl
    refine t_assign rfl ?_ rfl
    refine t_done ?_
    refine x_seq ?_
    refine w_ret ?_
    refine x_then_ret ?_
    refine x_ret1 rfl rfl ?_
    obtain ⟨fp, hO⟩ := (S.mono X0.size).head
    exact ⟨_, fp, rfl, by rw [pathEnc, h1', if_neg (by simp), List.append_nil]; exact hO, ext_trans X0 B⟩
  · intro h1
    have h1' : encPath p = true := by simpa using h1
    refine w_skip ?_
    refine x_seq ?_
    refine w_seq ?_
    refine w_draw (.st .take 0 (.st .take 1 (.st .take 2 (.st .take 3 (.st .take 5 (.st .run 4 (.st .run 6 (.st .run 7 (.st .fin 8 (.st .fin 9 .done)))))))))) mixed (by kernel_rfl) ?_
    intro w83 x84
    have B := bx Hb B x84
    have S := S.below x84
    refine t_move rfl ?_ rfl
    refine t_fld ln_path_0 (by assumption) fb_path_0 rfl ?_ rfl
    intro p14 hp14
    refine t_lds (by assumption) ab_s_part B rfl ?_ rfl
    intro v15 hv15
    refine t_len e_part (by assumption) rfl rfl ?_ rfl
    refine t_lda (by assumption) ab_path sb_path B rfl ?_ rfl
    intro v18 hv18
    obtain ⟨v18_0, rfl, hv18_0⟩ := path_va hv18
    refine t_call Try.call157 rfl (spec_AppendVarint _ _ _ _ (S.sl) (by first | omega | (simp only [List.nil_append]; omega))) ?_ rfl rfl
    rintro e w85 ⟨v17, fpv17, rfl, hOv17, x86⟩
    refine ⟨_, rfl, x86, ?_⟩
    have S := S.add (o := slO _ _ _ _) x86 hOv17
    have B := bx Hb B x86
    refine t_call Try.call158 rfl (va1 (by first | assumption | exact VA.below (by assumption) B) fun cs h => spec_PathInts _ cs _ h (by omega) (by assumption) (by assumption)) ?_ rfl rfl
    rintro e w87 ⟨v19, fpv19, rfl, hOv19, x88⟩
    refine ⟨_, rfl, x88, ?_⟩
    have S := S.add (o := slO _ _ _ _) x88 hOv19
    have B := bx Hb B x88
    refine t_call Try.call107 rfl (spec_EncodeInts _ _ _ (S.sl) (by first | omega | (simp; done) | (simp; omega))) ?_ rfl rfl
    rintro e w89 ⟨v20, fpv20, rfl, hOv20, x90⟩
    refine ⟨_, rfl, x90, ?_⟩
    have S := S.add (o := slO _ _ _ _) x90 hOv20
    have B := bx Hb B x90
    have hR := S.sl
    have S := S.f2
    refine t_cat byte_flat e_byte S hR rfl rfl rfl (by first | omega | (simp [-List.length_flatMap]; omega)) (by (simp [maxLen, -List.length_flatMap]; try omega)) ?_ rfl
    intro v21 w91 x92 S
    have B := B.trans x92
    clear hR
    refine t_assign rfl ?_ rfl
    refine t_done' ?_
    refine x_seq ?_
    refine w_ret ?_
    refine x_ret1 rfl rfl ?_
    obtain ⟨fp, hO⟩ := (S.mono X0.size).head
    exact ⟨_, fp, rfl, by rw [pathEnc, h1', if_pos rfl, ← List.append_assoc]; exact hO, ext_trans X0 B⟩
theorem pathEnc_len (p : Path) (hz : sz_path p ≤ 1048576) : (pathEnc p).length ≤ 100000000 := by
  have hT : (pathInts p).length ≤ 5 * sz_path p := pathInts_len p
  have hv0 := vint_len (List.length p : Int)
  have hf1 := flat_vint (pathInts p)
  unfold pathEnc
  split
  · rw [List.length_append]; omega
  · simp

end Go.Proofs.Ytfgobdejlfojiaa
