/- What LawFnCarries needs of the texts below it, part 2: contracts of functions, plain lemmas. (Put together by slim.py.) -/
import Derived.Test.YtdaecknfahgddaaSLawFnCarries1
namespace Go.Proofs.Ytdaecknfahgddaa
open Go.RowKit
set_option linter.unusedVariables false
set_option maxRecDepth 20000
section
variable {P : Program} {n : Nat} {ops : Array Oper} {Q : Exit → Act → World → Prop} {L : Frm} {w : World} {m : Md} {r : IT} {d : Nat} {ty : TypeId} {pos : String} {af : Array Edge}
theorem i64_or128 (y : Int) (h₀ : 0 ≤ y) (h₁ : y < 128) : bits .or .i64 y 128 = y + 128 := by
  have hc : bits .or .i64 y 128 = bits .or .i64 128 y := by simp only [bits, BitVec.or_comm]
  rw [hc, bits_join .i64 8 (by decide) (fun n h0 h1 => by rw [IntKind.wrap_i64]; omega) 7 128 y (by decide) (by decide) (by decide) h₀ h₁ (by omega)]
  omega
theorem t_and127 {x y : Operand} {t t' : TypeId} {a : Int} (hx : ev L x = some (I a)) (hy : ev L y = some (I 127)) (k : WT P n ops Q r ((d, I (a % 128)) :: L) w) (hn : Nat.blt d n = true) : WT P n ops Q (.st m ⟨some d, .binOp .and t x y t', ty, pos, af, none⟩ r) L w :=
  t_read (fun e ha _ _ _ w' _ => by simp [execOp, ha.ev hx, ha.ev hy, eqGuard, binOp, intBits_and, i64_and127]) k hn
theorem t_or128 {x y : Operand} {t t' : TypeId} {a : Int} (hx : ev L x = some (I a)) (hy : ev L y = some (I 128)) (hr : 0 ≤ a ∧ a < 128) (k : WT P n ops Q r ((d, I (a + 128)) :: L) w) (hn : Nat.blt d n = true) : WT P n ops Q (.st m ⟨some d, .binOp .or t x y t', ty, pos, af, none⟩ r) L w :=
  t_read (fun e ha _ _ _ w' _ => by simp [execOp, ha.ev hx, ha.ev hy, eqGuard, binOp, intBits_or, i64_or128 a hr.1 hr.2]) k hn
theorem t_shr7 {x y : Operand} {t t' : TypeId} {a : Int} (hx : ev L x = some (I a)) (hy : ev L y = some (.int .u64 7)) (k : WT P n ops Q r ((d, I (a / 128)) :: L) w) (hn : Nat.blt d n = true) : WT P n ops Q (.st m ⟨some d, .binOp .shr t x y t', ty, pos, af, none⟩ r) L w :=
  t_read (fun e ha _ _ _ w' _ => by simp [execOp, ha.ev hx, ha.ev hy, eqGuard, binOp, shift_shr_any, IntKind.bits]) k hn
end
theorem nilR {α : Type} {T : Ty α} {w : World} : SlR T w (.slice none 0 0) [] := (SlO.nil (e := 0) (base := 0)).read
theorem byte_lit (k : Int) {w : World} : byteT.R w [.int .u8 (IntKind.u8.wrap k)] (bt k) := by
  show _ = _; rw [← bt_toNat]
/-- A number as_ bytes. -/
def venc (n : Nat) : List UInt8 := if h : n < 128 then [bt n] else bt ((n : Int) % 128 + 128) :: venc (n / 128)
termination_by n
decreasing_by omega
theorem venc_small {n : Nat} (h : n < 128) : venc n = [bt n] := by rw [venc, dif_pos h]
theorem venc_big {n : Nat} (h : ¬ n < 128) : venc n = bt ((n : Int) % 128 + 128) :: venc (n / 128) := by rw [venc, dif_neg h]
theorem venc_len : ∀ (k n : Nat), n < 128 ^ (k + 1) → (venc n).length ≤ k + 1
  | 0, n, h => by rw [venc_small (by omega)]; simp
  | k + 1, n, h => by
    by_cases hs : n < 128
    · rw [venc_small hs]; simp
    · rw [venc_big hs, List.length_cons]
      have := venc_len k (n / 128) (by rw [Nat.div_lt_iff_lt_mul (by omega)]; rw [Nat.pow_succ] at h; exact h)
      omega
def vint (n : Int) : List UInt8 := if inR n 0 1000000000000 then venc n.toNat else []
theorem vint_len (n : Int) : (vint n).length ≤ 6 := by
  unfold vint
  split
  · rename_i h
    have := inR_iff.1 h
    exact venc_len 5 _ (by omega)
  · simp
theorem impl_copyBytes (b : List UInt8) (v : Value) (w : World) (h : SlR byteT w v b) (hz : b.length ≤ 1000000000) : Calls Try.prog 74 #[v] w fun e w' => ∃ v fp, e = .returned v ∧ SlO byteT 5 w.heap.size w' v b fp ∧ Below w.heap.size w w' := by
  have X0 := Below.refl w.heap.size w
  refine enter Try.func74 rfl Try.ntmps74 rfl ?_
  refine w_seq ?_
  refine w_region ?_
  have S := Sep.nil w
  have B := Below.refl w.heap.size w
  have Hb := Nat.le_refl w.heap.size
  refine t_assign rfl ?_ rfl
  refine t_done ?_
  refine x_seq ?_
  refine w_seq ?_
  refine w_region ?_
  refine t_lit (T := byteT) (css := []) (l := []) byte_flat S bs_byte0 rfl rfl rfl rfl (Nat.zero_le _) litR_nil ?_ rfl rfl
  intro u3 w1 x2 S
  have B := bx Hb B x2
  refine t_move rfl ?_ rfl
  refine t_cat byte_flat e_byte S (by first | assumption | exact SlR.below (by assumption) B) rfl rfl rfl (by first | omega | (simp [-List.length_flatMap]; omega)) (by (simp [maxLen, -List.length_flatMap]; try omega)) ?_ rfl
  intro v5 w3 x4 S
  have B := B.trans x4
  refine t_assign rfl ?_ rfl
  refine t_done ?_
  refine x_seq ?_
  refine w_ret ?_
  refine x_ret1 rfl rfl ?_
  obtain ⟨fp, hO⟩ := (S.mono X0.size).head
  exact ⟨_, fp, rfl, hO, ext_trans X0 B⟩
theorem impl_AppendVarint (b : List UInt8) (v : Value) (i : Int) (w : World) (h : SlR byteT w v b) (hz : b.length ≤ 900000000) : Calls Try.prog 75 #[v, I i] w fun e w' => ∃ v fp, e = .returned v ∧ SlO byteT 5 w.heap.size w' v (b ++ vint i) fp ∧ Below w.heap.size w w' := by
  have X0 := Below.refl w.heap.size w
  refine enter Try.func75 rfl Try.ntmps75 rfl ?_
  refine w_seq ?_
  refine w_region ?_
  have S := Sep.nil w
  have B := Below.refl w.heap.size w
  have Hb := Nat.le_refl w.heap.size
  refine t_assign rfl ?_ rfl
  refine t_done ?_
  refine x_seq ?_
  refine w_seq ?_
  refine w_region ?_
  refine t_move rfl ?_ rfl
  refine t_call Try.call74 rfl (impl_copyBytes _ _ _ (by first | assumption | exact SlR.below (by assumption) B) (by omega)) ?_ rfl rfl
  rintro e w5 ⟨v7, fpv7, rfl, hOv7, x6⟩
  refine ⟨_, rfl, x6, ?_⟩
  have S := S.add (o := slO _ _ _ _) x6 hOv7
  have B := bx Hb B x6
  refine t_assign rfl ?_ rfl
  refine t_done ?_
  refine x_seq ?_
  refine w_seq ?_
  refine w_seq ?_
  refine w_region ?_
  refine t_move rfl ?_ rfl
  refine t_calls Try.call57 rfl (impl_InRange _ _ _ _) ?_ rfl rfl
  refine t_notb rfl ?_ rfl
  refine t_done ?_
  refine x_seq ?_
  refine w_ifb rfl ?_ ?_
  · intro h1
    refine w_seq ?_
    refine w_region ?_
    refine t_move rfl ?_ rfl
    refine t_assign rfl ?_ rfl
    refine t_done ?_
    refine x_seq ?_
    refine w_ret ?_
    refine x_then_ret ?_
    refine x_ret1 rfl rfl ?_
    have h1' : inR i 0 1000000000000 = false := by simpa using h1
    obtain ⟨fp, hO⟩ := (S.mono X0.size).head
    have hv : vint i = [] := by rw [vint, h1']; rfl
    exact ⟨_, fp, rfl, by rw [hv, List.append_nil]; exact hO, ext_trans X0 B⟩
  · intro h1
    have h1' : inR i 0 1000000000000 = true := by simpa using h1
    have r1 := inR_iff.1 h1'
    have hlen := vint_len i
    obtain ⟨n, rfl⟩ : ∃ n : Nat, i = n := ⟨i.toNat, by omega⟩
    have hv : vint n = venc n := by rw [vint, if_pos h1']; rfl
    refine w_skip ?_
    refine x_seq ?_
    refine w_seq ?_
    refine w_block ?_
    refine w_loop (X := Nat × List UInt8 × Value) (fun x wq => (fun m acc v => m ≤ 1000000000000 ∧ acc ++ venc m = vint n ∧ Below w.heap.size w wq ∧ Sep w.heap.size wq [slO byteT 5 v (b ++ acc)]) x.1 x.2.1 x.2.2) (fun x => (fun m acc v => [(1, I ((m : Int))), (5, v), (4, .slice none 0 0)]) x.1 x.2.1 x.2.2) (fun x => (fun m acc v => m) x.1 x.2.1 x.2.2) (n, [], v7) ?_ ⟨rfl, rfl, rfl, trivial⟩ ?_
    · exact ⟨by omega, by rw [hv]; rfl, B, by simpa using S⟩
    · rintro ⟨m, acc, v⟩ w7 hI
      try dsimp only at hI ⊢
      obtain ⟨hk, ha, B, S⟩ := hI
      have hal : acc.length ≤ 6 := by have := congrArg List.length ha; rw [List.length_append] at this; omega
      have hbl : (b ++ acc).length ≤ 950000000 := by rw [List.length_append]; omega
      refine w_seq ?_
      refine w_seq ?_
      refine w_region ?_
      refine t_move rfl ?_ rfl
      refine t_geq rfl rfl ?_ rfl
      refine t_done ?_
      refine x_seq ?_
      refine w_if rfl ?_ ?_
      · intro hlt
        refine w_skip ?_
        refine x_seq ?_
        refine w_block ?_
        refine w_seq ?_
        refine w_region ?_
        refine t_move rfl ?_ rfl
        refine t_move rfl ?_ rfl
        refine t_rem rfl rfl (by omega) ?_ rfl
        refine t_add rfl rfl (by omega) ?_ rfl
        refine t_conv Try.underlying3 Try.underlying5 rfl ?_ rfl
        refine t_lit (T := byteT) (l := [bt (((m : Int) % 128) + 128)]) (css := [[.int .u8 (IntKind.u8.wrap (((m : Int) % 128) + 128))]]) byte_flat S (fun w => bs_byte1 _ w) rfl rfl rfl rfl (by simp [maxLen]) (litR_one fun _ => byte_lit _) ?_ rfl rfl
        intro u19 w8 x9 S
        have B := bx Hb B x9
        have hR := S.sl
        have S := S.f1
        refine t_cat byte_flat e_byte S hR rfl rfl rfl (by first | omega | (simp [-List.length_flatMap]; omega)) (by (simp [maxLen, -List.length_flatMap]; try omega)) ?_ rfl
        intro v20 w10 x11 S
        have B := B.trans x11
        clear hR
        have S := S.f1
        have S := S.tail
        refine t_assign rfl ?_ rfl
        refine t_done ?_
        refine x_seq ?_
        refine w_region ?_
        refine t_move rfl ?_ rfl
        refine t_quo rfl rfl (by omega) ?_ rfl
        refine t_assign rfl ?_ rfl
        refine t_done ?_
        refine x_block_normal ?_
        refine x_round (X := Nat × List UInt8 × Value) (I := (fun x wq => (fun m acc v => m ≤ 1000000000000 ∧ acc ++ venc m = vint n ∧ Below w.heap.size w wq ∧ Sep w.heap.size wq [slO byteT 5 v (b ++ acc)]) x.1 x.2.1 x.2.2)) (F := (fun x => (fun m acc v => [(1, I ((m : Int))), (5, v), (4, .slice none 0 0)]) x.1 x.2.1 x.2.2)) (μ := (fun x => (fun m acc v => m) x.1 x.2.1 x.2.2)) (m / 128, acc ++ [bt ((m : Int) % 128 + 128)], v20) ?_ (by exact ⟨rfl, rfl, rfl, trivial⟩) (by (try dsimp only); omega)
        try dsimp only
        refine ⟨by omega, ?_, B, by simpa using S⟩
        rw [List.append_assoc, ← ha, venc_big (n := m) (by omega)]
        rfl
      · intro hge
        refine w_exit ?_
        refine x_then_exit ?_
        refine x_then_exit ?_
        refine x_block_exit ?_
        refine x_seq ?_
        refine w_seq ?_
        refine w_region ?_
        refine t_move rfl ?_ rfl
        refine t_move rfl ?_ rfl
        refine t_conv Try.underlying3 Try.underlying5 rfl ?_ rfl
        refine t_lit (T := byteT) (l := [bt (m : Int)]) (css := [[.int .u8 (IntKind.u8.wrap (m : Int))]]) byte_flat S (fun w => bs_byte1 _ w) rfl rfl rfl rfl (by simp [maxLen]) (litR_one fun _ => byte_lit _) ?_ rfl rfl
        intro u26 w12 x13 S
        have B := bx Hb B x13
        have hR := S.sl
        have S := S.f1
        refine t_cat byte_flat e_byte S hR rfl rfl rfl (by first | omega | (simp [-List.length_flatMap]; omega)) (by (simp [maxLen, -List.length_flatMap]; try omega)) ?_ rfl
        intro v27 w14 x15 S
        have B := B.trans x15
        clear hR
        have S := S.f1
        have S := S.tail
        refine t_assign rfl ?_ rfl
        refine t_done ?_
        refine x_seq ?_
        refine w_ret ?_
        refine x_ret1 rfl rfl ?_
        obtain ⟨fp, hO⟩ := (S.mono X0.size).head
        refine ⟨_, fp, rfl, ?_, ext_trans X0 B⟩
        rw [← ha, venc_small (by omega), ← List.append_assoc]
        exact hO
theorem spec_AppendVarint (b : List UInt8) (v : Value) (i : Int) (w : World) (h : SlR byteT w v b) (hz : b.length ≤ 900000000) : Calls Try.prog 86 #[v, I i] w fun e w' => ∃ v fp, e = .returned v ∧ SlO byteT 5 w.heap.size w' v (b ++ vint i) fp ∧ Below w.heap.size w w' := by
  have X0 := Below.refl w.heap.size w
  refine enter Try.func86 rfl Try.ntmps86 rfl ?_
  refine w_seq ?_
  refine w_region ?_
  have S := Sep.nil w
  have B := Below.refl w.heap.size w
  have Hb := Nat.le_refl w.heap.size
  refine t_assign rfl ?_ rfl
  refine t_done ?_
  refine x_seq ?_
  refine w_seq ?_
  refine w_region ?_
  refine t_lit (T := byteT) (css := []) (l := []) byte_flat S bs_byte0 rfl rfl rfl rfl (Nat.zero_le _) litR_nil ?_ rfl rfl
  intro u6 w16 x17 S
  have B := bx Hb B x17
  refine t_move rfl ?_ rfl
  refine t_cat byte_flat e_byte S (by first | assumption | exact SlR.below (by assumption) B) rfl rfl rfl (by first | omega | (simp [-List.length_flatMap]; omega)) (by (simp [maxLen, -List.length_flatMap]; try omega)) ?_ rfl
  intro v8 w18 x19 S
  have B := B.trans x19
  refine t_assign rfl ?_ rfl
  refine t_done ?_
  refine x_seq ?_
  refine w_seq ?_
  refine w_seq ?_
  refine w_region ?_
  refine t_move rfl ?_ rfl
  refine t_calls Try.call54 rfl (spec_l1In _ _ _ _) ?_ rfl rfl
  refine t_notb rfl ?_ rfl
  refine t_done ?_
  refine x_seq ?_
  refine w_ifb rfl ?_ ?_
  · intro h1
    refine w_seq ?_
    refine w_region ?_
    refine t_move rfl ?_ rfl
    refine t_assign rfl ?_ rfl
    refine t_done ?_
    refine x_seq ?_
    refine w_ret ?_
    refine x_then_ret ?_
    refine x_ret1 rfl rfl ?_
    have h1' : inR i 0 1000000000000 = false := by simpa using h1
    obtain ⟨fp, hO⟩ := (S.mono X0.size).head
    have hv : vint i = [] := by rw [vint, h1']; rfl
    exact ⟨_, fp, rfl, by rw [hv, List.append_nil]; exact hO, ext_trans X0 B⟩
  · intro h1
    have h1' : inR i 0 1000000000000 = true := by simpa using h1
    have r1 := inR_iff.1 h1'
    have hlen := vint_len i
    obtain ⟨n, rfl⟩ : ∃ n : Nat, i = n := ⟨i.toNat, by omega⟩
    have hv : vint n = venc n := by rw [vint, if_pos h1']; rfl
    refine w_skip ?_
    refine x_seq ?_
    refine w_seq ?_
    refine w_block ?_
    refine w_loop (X := Nat × List UInt8 × Value) (fun x wq => (fun m acc v => m ≤ 1000000000000 ∧ acc ++ venc m = vint n ∧ Below w.heap.size w wq ∧ Sep w.heap.size wq [slO byteT 5 v (b ++ acc)]) x.1 x.2.1 x.2.2) (fun x => (fun m acc v => [(1, I ((m : Int))), (5, v), (4, .slice none 0 0)]) x.1 x.2.1 x.2.2) (fun x => (fun m acc v => m) x.1 x.2.1 x.2.2) (n, [], v8) ?_ ⟨rfl, rfl, rfl, trivial⟩ ?_
    · exact ⟨by omega, by rw [hv]; rfl, B, by simpa using S⟩
    · rintro ⟨m, acc, v⟩ w20 hI
      try dsimp only at hI ⊢
      obtain ⟨hk, ha, B, S⟩ := hI
      have hal : acc.length ≤ 6 := by have := congrArg List.length ha; rw [List.length_append] at this; omega
      have hbl : (b ++ acc).length ≤ 950000000 := by rw [List.length_append]; omega
      refine w_seq ?_
      refine w_seq ?_
      refine w_region ?_
      refine t_move rfl ?_ rfl
      refine t_gtr rfl rfl ?_ rfl
      refine t_done ?_
      refine x_seq ?_
      refine w_if rfl ?_ ?_
      · intro hlt
        refine w_skip ?_
        refine x_seq ?_
        refine w_block ?_
        refine w_seq ?_
        refine w_region ?_
        refine t_move rfl ?_ rfl
        refine t_move rfl ?_ rfl
        refine t_and127 rfl rfl ?_ rfl
        refine t_or128 rfl rfl (by omega) ?_ rfl
        refine t_conv Try.underlying3 Try.underlying5 rfl ?_ rfl
        refine t_lit (T := byteT) (l := [bt (((m : Int) % 128) + 128)]) (css := [[.int .u8 (IntKind.u8.wrap (((m : Int) % 128) + 128))]]) byte_flat S (fun w => bs_byte1 _ w) rfl rfl rfl rfl (by simp [maxLen]) (litR_one fun _ => byte_lit _) ?_ rfl rfl
        intro u20 w21 x22 S
        have B := bx Hb B x22
        have hR := S.sl
        have S := S.f1
        refine t_cat byte_flat e_byte S hR rfl rfl rfl (by first | omega | (simp [-List.length_flatMap]; omega)) (by (simp [maxLen, -List.length_flatMap]; try omega)) ?_ rfl
        intro v21 w23 x24 S
        have B := B.trans x24
        clear hR
        have S := S.f1
        have S := S.tail
        refine t_assign rfl ?_ rfl
        refine t_done ?_
        refine x_seq ?_
        refine w_region ?_
        refine t_move rfl ?_ rfl
        refine t_shr7 rfl rfl ?_ rfl
        refine t_assign rfl ?_ rfl
        refine t_done ?_
        refine x_block_normal ?_
        refine x_round (X := Nat × List UInt8 × Value) (I := (fun x wq => (fun m acc v => m ≤ 1000000000000 ∧ acc ++ venc m = vint n ∧ Below w.heap.size w wq ∧ Sep w.heap.size wq [slO byteT 5 v (b ++ acc)]) x.1 x.2.1 x.2.2)) (F := (fun x => (fun m acc v => [(1, I ((m : Int))), (5, v), (4, .slice none 0 0)]) x.1 x.2.1 x.2.2)) (μ := (fun x => (fun m acc v => m) x.1 x.2.1 x.2.2)) (m / 128, acc ++ [bt ((m : Int) % 128 + 128)], v21) ?_ (by exact ⟨rfl, rfl, rfl, trivial⟩) (by (try dsimp only); omega)
        try dsimp only
        refine ⟨by omega, ?_, B, by simpa using S⟩
        rw [List.append_assoc, ← ha, venc_big (n := m) (by omega)]
        rfl
      · intro hge
        refine w_exit ?_
        refine x_then_exit ?_
        refine x_then_exit ?_
        refine x_block_exit ?_
        refine x_seq ?_
        refine w_seq ?_
        refine w_region ?_
        refine t_move rfl ?_ rfl
        refine t_move rfl ?_ rfl
        refine t_conv Try.underlying3 Try.underlying5 rfl ?_ rfl
        refine t_lit (T := byteT) (l := [bt (m : Int)]) (css := [[.int .u8 (IntKind.u8.wrap (m : Int))]]) byte_flat S (fun w => bs_byte1 _ w) rfl rfl rfl rfl (by simp [maxLen]) (litR_one fun _ => byte_lit _) ?_ rfl rfl
        intro u27 w25 x26 S
        have B := bx Hb B x26
        have hR := S.sl
        have S := S.f1
        refine t_cat byte_flat e_byte S hR rfl rfl rfl (by first | omega | (simp [-List.length_flatMap]; omega)) (by (simp [maxLen, -List.length_flatMap]; try omega)) ?_ rfl
        intro v28 w27 x28 S
        have B := B.trans x28
        clear hR
        have S := S.f1
        have S := S.tail
        refine t_assign rfl ?_ rfl
        refine t_done ?_
        refine x_seq ?_
        refine w_ret ?_
        refine x_ret1 rfl rfl ?_
        obtain ⟨fp, hO⟩ := (S.mono X0.size).head
        refine ⟨_, fp, rfl, ?_, ext_trans X0 B⟩
        rw [← ha, venc_small (by omega), ← List.append_assoc]
        exact hO
theorem flat_vint (l : List Int) : (l.flatMap vint).length ≤ 6 * l.length := len_flat_le _ 6 l fun x _ => vint_len x
theorem flat_take {α β : Type} (g : α → List β) (l : List α) (k : Nat) : ((l.take k).flatMap g).length ≤ (l.flatMap g).length := by
  conv => rhs; rw [← List.take_append_drop k l]
  rw [List.flatMap_append, List.length_append]; omega
theorem impl_appendInts (b : List UInt8) (v : Value) (l : List Int) (u : Value) (w : World) (h : SlR byteT w v b) (h' : SlR intT w u l) (hz : b.length ≤ 500000000) (hz' : l.length ≤ 16777216) (hne : l ≠ []) : Calls Try.prog 76 #[v, u] w fun e w' => ∃ v fp, e = .returned v ∧ SlO byteT 5 w.heap.size w' v (b ++ l.flatMap vint) fp ∧ Below w.heap.size w w' := by
  have hfl := flat_vint l
  have hpos : 0 < l.length := List.length_pos_iff.2 hne
  have X0 := Below.refl w.heap.size w
  refine enter Try.func76 rfl Try.ntmps76 rfl ?_
  refine w_seq ?_
  refine w_region ?_
  have S := Sep.nil w
  have B := Below.refl w.heap.size w
  have Hb := Nat.le_refl w.heap.size
  refine t_assign rfl ?_ rfl
  refine t_done ?_
  refine x_seq ?_
  refine w_seq ?_
  refine w_seq ?_
  refine w_region ?_
  refine t_move rfl ?_ rfl
  refine t_len e_int (by assumption) rfl rfl ?_ rfl
  refine t_move rfl ?_ rfl
  refine t_done ?_
  refine x_seq ?_
  refine w_block ?_
  refine w_loop (X := Nat × Value) (fun x wq => (fun k q => k ≤ l.length ∧ SlR byteT wq q (b ++ (l.take k).flatMap vint) ∧ (k ≠ 0 → ∃ fp, SlO byteT 5 w.heap.size wq q (b ++ (l.take k).flatMap vint) fp) ∧ Below w.heap.size w wq ∧ Sep w.heap.size wq []) x.1 x.2) (fun x => (fun k q => [(9, I ((k : Int))), (0, q), (4, .slice none 0 0), (7, u), (8, I ((l.length : Int)))]) x.1 x.2) (fun x => (fun k q => l.length - k) x.1 x.2) (0, v) ?_ ⟨rfl, rfl, rfl, rfl, rfl, trivial⟩ ?_
  · exact ⟨by omega, by simpa using h, fun q => absurd rfl q, B, S⟩
  · rintro ⟨k, q⟩ w29 hI
    try dsimp only at hI ⊢
    obtain ⟨hk, hq, hO, B, S⟩ := hI
    have hft := flat_take vint l k
    have hbl : (b ++ (l.take k).flatMap vint).length ≤ 800000000 := by rw [List.length_append]; omega
    refine w_seq ?_
    refine w_region ?_
    refine t_lss rfl rfl ?_ rfl
    refine t_done ?_
    refine x_seq ?_
    refine w_seq ?_
    refine w_if rfl ?_ ?_
    · intro hlt
      refine w_skip ?_
      refine x_seq ?_
      refine w_seq ?_
      refine w_block ?_
      refine w_seq ?_
      refine w_region ?_
      obtain ⟨e11, he11⟩ : ∃ e, (l)[k]? = some e := getx (by omega)
      refine t_idx e_int (k := k) (by assumption) he11 B rfl rfl (by first | rfl | omega) ?_ rfl
      intro p11 hp11
      refine t_ldi (by assumption) ab_int B rfl ?_ rfl
      refine t_assign rfl ?_ rfl
      refine t_done ?_
      refine x_seq ?_
      refine w_region ?_
      refine t_move rfl ?_ rfl
      refine t_move rfl ?_ rfl
      refine t_call Try.call75 rfl (impl_AppendVarint _ _ _ _ (by first | assumption | exact SlR.below (by assumption) B) (by first | omega | (simp only [List.nil_append]; omega))) ?_ rfl rfl
      rintro e w30 ⟨v15, fpv15, rfl, hOv15, x31⟩
      refine ⟨_, rfl, x31, ?_⟩
      have S := S.add (o := slO _ _ _ _) x31 hOv15
      have B := bx Hb B x31
      refine t_assign rfl ?_ rfl
      refine t_done ?_
      refine x_block_normal ?_
      refine x_seq ?_
      refine w_region ?_
      refine t_add rfl rfl (by omega) ?_ rfl
      refine t_move rfl ?_ rfl
      refine t_done ?_
      have hR := S.sl
      have hO2 := S.head
      have S := S.tail
      refine x_round (X := Nat × Value) (I := (fun x wq => (fun k q => k ≤ l.length ∧ SlR byteT wq q (b ++ (l.take k).flatMap vint) ∧ (k ≠ 0 → ∃ fp, SlO byteT 5 w.heap.size wq q (b ++ (l.take k).flatMap vint) fp) ∧ Below w.heap.size w wq ∧ Sep w.heap.size wq []) x.1 x.2)) (F := (fun x => (fun k q => [(9, I ((k : Int))), (0, q), (4, .slice none 0 0), (7, u), (8, I ((l.length : Int)))]) x.1 x.2)) (μ := (fun x => (fun k q => l.length - k) x.1 x.2)) (k + 1, v15) ?_ (by exact ⟨rfl, rfl, rfl, rfl, rfl, trivial⟩) (by (try dsimp only); omega)
      try dsimp only
      rw [flat_snoc he11, ← List.append_assoc]
      exact ⟨by omega, hR, fun _ => hO2, B, S⟩
    · intro hge
      refine w_exit ?_
      refine x_then_exit ?_
      refine x_then_exit ?_
      refine x_block_exit ?_
      refine x_seq ?_
      refine w_seq ?_
      refine w_region ?_
      refine t_move rfl ?_ rfl
      refine t_assign rfl ?_ rfl
      refine t_done ?_
      refine x_seq ?_
      refine w_ret ?_
      refine x_ret1 rfl rfl ?_
      have : k = l.length := by omega
      subst this
      rw [List.take_length] at hO
      obtain ⟨fp, hO⟩ := hO (by omega)
      exact ⟨_, fp, rfl, hO.mono X0.size, ext_trans X0 B⟩
theorem spec_EncodeInts (l : List Int) (u : Value) (w : World) (h' : SlR intT w u l) (hz' : l.length ≤ 16777216) : Calls Try.prog 87 #[u] w fun e w' => ∃ v fp, e = .returned v ∧ SlO byteT 5 w.heap.size w' v (l.flatMap vint) fp ∧ Below w.heap.size w w' := by
  have hfl := flat_vint l
  have X0 := Below.refl w.heap.size w
  refine enter Try.func87 rfl Try.ntmps87 rfl ?_
  refine w_seq ?_
  refine w_region ?_
  have S := Sep.nil w
  have B := Below.refl w.heap.size w
  have Hb := Nat.le_refl w.heap.size
  refine t_assign rfl ?_ rfl
  refine t_done ?_
  refine x_seq ?_
  refine w_seq ?_
  refine w_region ?_
  refine t_lit (T := byteT) (css := []) (l := []) byte_flat S bs_byte0 rfl rfl rfl rfl (Nat.zero_le _) litR_nil ?_ rfl rfl
  intro u5 w32 x33 S
  have B := bx Hb B x33
  refine t_assign rfl ?_ rfl
  refine t_done ?_
  refine x_seq ?_
  refine w_seq ?_
  refine w_seq ?_
  refine w_region ?_
  refine t_assign rfl ?_ rfl
  refine t_done ?_
  refine x_seq ?_
  refine w_block ?_
  refine w_loop (X := Nat × Value) (fun x wq => (fun k v => k ≤ l.length ∧ Below w.heap.size w wq ∧ Sep w.heap.size wq [slO byteT 5 v ((l.take k).flatMap vint)]) x.1 x.2) (fun x => (fun k v => [(4, I ((k : Int))), (3, v), (0, u), (2, .slice none 0 0)]) x.1 x.2) (fun x => (fun k v => l.length - k) x.1 x.2) (0, u5) ?_ ⟨rfl, rfl, rfl, rfl, trivial⟩ ?_
  · exact ⟨by omega, B, S⟩
  · rintro ⟨k, v⟩ w34 hI
    try dsimp only at hI ⊢
    obtain ⟨hk, B, S⟩ := hI
    have hft := flat_take vint l k
    refine w_seq ?_
    refine w_seq ?_
    refine w_region ?_
    refine t_move rfl ?_ rfl
    refine t_move rfl ?_ rfl
    refine t_len e_int (by assumption) rfl rfl ?_ rfl
    refine t_lss rfl rfl ?_ rfl
    refine t_done ?_
    refine x_seq ?_
    refine w_if rfl ?_ ?_
    · intro hlt
      refine w_skip ?_
      refine x_seq ?_
      refine w_seq ?_
      refine w_block ?_
      refine w_region ?_
      refine t_move rfl ?_ rfl
      refine t_move rfl ?_ rfl
      refine t_move rfl ?_ rfl
      obtain ⟨e15, he15⟩ : ∃ e, (l)[k]? = some e := getx (by omega)
      refine t_idx e_int (k := k) (by assumption) he15 B rfl rfl (by first | rfl | omega) ?_ rfl
      intro p15 hp15
      refine t_ldi (by assumption) ab_int B rfl ?_ rfl
      refine t_call Try.call86 rfl (spec_AppendVarint _ _ _ _ (S.sl) (by first | omega | (simp only [List.nil_append]; omega))) ?_ rfl rfl
      rintro e w35 ⟨v17, fpv17, rfl, hOv17, x36⟩
      refine ⟨_, rfl, x36, ?_⟩
      have S := S.add (o := slO _ _ _ _) x36 hOv17
      have B := bx Hb B x36
      refine t_assign rfl ?_ rfl
      refine t_done ?_
      refine x_block_normal ?_
      refine x_seq ?_
      refine w_region ?_
      refine t_move rfl ?_ rfl
      refine t_add rfl rfl (by omega) ?_ rfl
      refine t_assign rfl ?_ rfl
      refine t_done ?_
      have S := S.f1
      have S := S.tail
      refine x_round (X := Nat × Value) (I := (fun x wq => (fun k v => k ≤ l.length ∧ Below w.heap.size w wq ∧ Sep w.heap.size wq [slO byteT 5 v ((l.take k).flatMap vint)]) x.1 x.2)) (F := (fun x => (fun k v => [(4, I ((k : Int))), (3, v), (0, u), (2, .slice none 0 0)]) x.1 x.2)) (μ := (fun x => (fun k v => l.length - k) x.1 x.2)) (k + 1, v17) ?_ (by exact ⟨rfl, rfl, rfl, rfl, trivial⟩) (by (try dsimp only); omega)
      try dsimp only
      rw [flat_snoc he15]
      exact ⟨by omega, B, S⟩
    · intro hge
      refine w_exit ?_
      refine x_then_exit ?_
      refine x_then_exit ?_
      refine x_block_exit ?_
      refine x_seq ?_
      refine w_seq ?_
      refine w_region ?_
      refine t_move rfl ?_ rfl
      refine t_assign rfl ?_ rfl
      refine t_done ?_
      refine x_seq ?_
      refine w_ret ?_
      refine x_ret1 rfl rfl ?_
      have : k = l.length := by omega
      subst this
      rw [List.take_length] at S
      obtain ⟨fp, hO⟩ := (S.mono X0.size).head
      exact ⟨_, fp, rfl, hO, ext_trans X0 B⟩
def hopEnc (x : Hop) : List UInt8 := if validHop x then (piH x).flatMap vint else []
theorem impl_AppendHop (b : List UInt8) (v : Value) (x : Hop) (w : World) (h : SlR byteT w v b) (hz : b.length ≤ 400000000) : Calls Try.prog 77 #[v, .agg #[I x.ia, I x.ing, I x.eg, I x.exp, I x.mac]] w fun e w' => ∃ v fp, e = .returned v ∧ SlO byteT 5 w.heap.size w' v (b ++ hopEnc x) fp ∧ Below w.heap.size w w' := by
  have hx := hop_mkv w x
  have hpl : (piH x).length = 5 := rfl
  have X0 := Below.refl w.heap.size w
  refine enter Try.func77 rfl Try.ntmps77 rfl ?_
  refine w_seq ?_
  refine w_region ?_
  refine t_boxr (by assumption) rfl ?_ rfl rfl
  intro p3 w37 x38 hp3
  replace h := h.below x38
  replace hx := hx.below x38
  have X0 := ext_trans X0 x38
  have S := Sep.nil w37
  have B := Below.refl w37.heap.size w37
  have Hb := Nat.le_refl w37.heap.size
  refine t_assign rfl ?_ rfl
  refine t_done ?_
  refine x_seq ?_
  refine w_seq ?_
  refine w_seq ?_
  refine w_region ?_
  refine t_lda (by assumption) ab_hop sb_hop B rfl ?_ rfl
  intro v5 hv5
  obtain rfl := hop_va hv5
  refine t_callx Try.call114 rfl (impl_ValidHop x _) ?_ rfl rfl
  intro w39 x40
  have B := bx Hb B x40
  have S := S.below x40
  refine t_notb rfl ?_ rfl
  refine t_done ?_
  refine x_seq ?_
  refine w_ifb rfl ?_ ?_
  · intro h1
    have h1' : validHop x = false := by simpa using h1
    refine w_seq ?_
    refine w_region ?_
    refine t_move rfl ?_ rfl
    refine t_call Try.call74 rfl (impl_copyBytes _ _ _ (by first | assumption | exact SlR.below (by assumption) B) (by omega)) ?_ rfl rfl
    rintro e w41 ⟨v9, fpv9, rfl, hOv9, x42⟩
    refine ⟨_, rfl, x42, ?_⟩
    have S := S.add (o := slO _ _ _ _) x42 hOv9
    have B := bx Hb B x42
    refine t_assign rfl ?_ rfl
    refine t_done ?_
    refine x_seq ?_
    refine w_ret ?_
    refine x_then_ret ?_
    refine x_ret1 rfl rfl ?_
    obtain ⟨fp, hO⟩ := (S.mono X0.size).head
    exact ⟨_, fp, rfl, by rw [hopEnc, h1', if_neg (by simp), List.append_nil]; exact hO, ext_trans X0 B⟩
  · intro h1
    have h1' : validHop x = true := by simpa using h1
    refine w_skip ?_
    refine x_seq ?_
    refine w_seq ?_
    refine w_draw (.st .take 0 (.st .take 2 (.st .run 1 (.st .run 3 (.st .run 4 (.st .take 5 .done)))))) mixed (by kernel_rfl) ?_
    intro w43 x44
    have B := bx Hb B x44
    have S := S.below x44
    refine t_move rfl ?_ rfl
    refine t_lda (by assumption) ab_hop sb_hop B rfl ?_ rfl
    intro v12 hv12
    obtain rfl := hop_va hv12
    refine t_call Try.call74 rfl (impl_copyBytes _ _ _ (by first | assumption | exact SlR.below (by assumption) B) (by omega)) ?_ rfl rfl
    rintro e w45 ⟨v11, fpv11, rfl, hOv11, x46⟩
    refine ⟨_, rfl, x46, ?_⟩
    have S := S.add (o := slO _ _ _ _) x46 hOv11
    have B := bx Hb B x46
    refine t_call Try.call89 rfl (impl_hopInts _ _) ?_ rfl rfl
    rintro e w47 ⟨v13, fpv13, rfl, hOv13, x48⟩
    refine ⟨_, rfl, x48, ?_⟩
    have S := S.add (o := slO _ _ _ _) x48 hOv13
    have B := bx Hb B x48
    refine t_call Try.call76 rfl (impl_appendInts _ _ _ _ _ (S.tail.sl) (S.sl) (by omega) (by first | omega | (simp; done) | (simp; omega)) (by first | (simp; done) | (simp [piH]; done))) ?_ rfl rfl
    rintro e w49 ⟨v14, fpv14, rfl, hOv14, x50⟩
    refine ⟨_, rfl, x50, ?_⟩
    have S := S.add (o := slO _ _ _ _) x50 hOv14
    have B := bx Hb B x50
    refine t_assign rfl ?_ rfl
    refine t_done' ?_
    refine x_seq ?_
    refine w_ret ?_
    refine x_ret1 rfl rfl ?_
    obtain ⟨fp, hO⟩ := (S.mono X0.size).head
    exact ⟨_, fp, rfl, by rw [hopEnc, h1', if_pos rfl]; exact hO, ext_trans X0 B⟩
def pathEnc (p : Path) : List UInt8 := if encPath p then vint (p.length : Int) ++ (pathInts p).flatMap vint else []
theorem enc_valid {p : Path} {k j : Nat} {x : Part} {y : Hop} (h : encPath p = true) (hx : p[k]? = some x) (hy : x.hops[j]? = some y) : validHop y = true := by
  unfold encPath at h
  rw [Bool.and_eq_true, List.all_eq_true] at h
  have h2 := h.2 x (List.mem_of_getElem? hx)
  unfold encPart encHops at h2
  simp only [Bool.and_eq_true, List.all_eq_true] at h2
  exact h2.2.2.2 y (List.mem_of_getElem? hy)
theorem impl_AppendPath (b : List UInt8) (v : Value) (p : Path) (u : Value) (w : World) (h : SlR byteT w v b) (h' : VA pathT w u p) (hz : b.length ≤ 100000000) (hz' : sz_path p ≤ 1048576) (hl : lenOk_path p) (hg : rng_path p) : Calls Try.prog 33 #[v, u] w fun e w' => ∃ v fp, e = .returned v ∧ SlO byteT 5 w.heap.size w' v (b ++ pathEnc p) fp ∧ Below w.heap.size w w' := by
  have hT : (intsOf piP piH p).length ≤ 5 * sz_path p := pathInts_len p
  have hpl : List.length p ≤ sz_path p := by show List.length p ≤ List.length p + _; omega
  have hv0 := vint_len (List.length p : Int)
  have X0 := Below.refl w.heap.size w
  refine enter Try.func33 rfl Try.ntmps33 rfl ?_
  refine w_seq ?_
  refine w_region ?_
  refine t_boxr (by assumption) rfl ?_ rfl rfl
  intro p3 w51 x52 hp3
  replace h := h.below x52
  replace h' := h'.below x52
  have X0 := ext_trans X0 x52
  have S := Sep.nil w51
  have B := Below.refl w51.heap.size w51
  have Hb := Nat.le_refl w51.heap.size
  refine t_assign rfl ?_ rfl
  refine t_done ?_
  refine x_seq ?_
  refine w_seq ?_
  refine w_region ?_
  refine t_move rfl ?_ rfl
  refine t_call Try.call74 rfl (impl_copyBytes _ _ _ (by first | assumption | exact SlR.below (by assumption) B) (by omega)) ?_ rfl rfl
  rintro e w53 ⟨v11, fpv11, rfl, hOv11, x54⟩
  refine ⟨_, rfl, x54, ?_⟩
  have S := S.add (o := slO _ _ _ _) x54 hOv11
  have B := bx Hb B x54
  refine t_assign rfl ?_ rfl
  refine t_done ?_
  refine x_seq ?_
  refine w_seq ?_
  refine w_seq ?_
  refine w_region ?_
  refine t_lda (by assumption) ab_path sb_path B rfl ?_ rfl
  intro v12 hv12
  obtain ⟨v12_0, rfl, hv12_0⟩ := path_va hv12
  refine t_callx Try.call50 rfl (va1 (by first | assumption | exact VA.below (by assumption) B | exact path_mkv (by first | assumption | exact SlR.below (by assumption) B)) fun cs h => impl_EncodablePath _ cs _ h (by omega) (by assumption) (by assumption)) ?_ rfl rfl
  intro w55 x56
  have B := bx Hb B x56
  have S := S.below x56
  refine t_notb rfl ?_ rfl
  refine t_done ?_
  refine x_seq ?_
  refine w_ifb rfl ?_ ?_
  · intro h1
    have h1' : encPath p = false := by simpa using h1
    refine w_seq ?_
    refine w_region ?_
    refine t_move rfl ?_ rfl
    refine t_assign rfl ?_ rfl
    refine t_done ?_
    refine x_seq ?_
    refine w_ret ?_
    refine x_then_ret ?_
    refine x_ret1 rfl rfl ?_
    obtain ⟨fp, hO⟩ := (S.mono X0.size).head
    exact ⟨_, fp, rfl, by rw [pathEnc, h1', if_neg (by simp), List.append_nil]; exact hO, ext_trans X0 B⟩
  · intro h1
    have h1' : encPath p = true := by simpa using h1
    refine w_skip ?_
    refine x_seq ?_
    refine w_seq ?_
    refine w_region ?_
    refine t_move rfl ?_ rfl
    refine t_fld ln_path_0 (by assumption) fb_path_0 rfl ?_ rfl
    intro p17 hp17
    refine t_lds (by assumption) ab_s_part B rfl ?_ rfl
    intro v18 hv18
    refine t_len e_part (by assumption) rfl rfl ?_ rfl
    refine t_call Try.call75 rfl (impl_AppendVarint _ _ _ _ (S.sl) (by first | omega | (simp only [List.nil_append]; omega))) ?_ rfl rfl
    rintro e w57 ⟨v20, fpv20, rfl, hOv20, x58⟩
    refine ⟨_, rfl, x58, ?_⟩
    have S := S.add (o := slO _ _ _ _) x58 hOv20
    have B := bx Hb B x58
    refine t_assign rfl ?_ rfl
    refine t_done ?_
    refine x_seq ?_
    refine w_seq ?_
    refine w_seq ?_
    refine w_region ?_
    refine t_fld ln_path_0 (by assumption) fb_path_0 rfl ?_ rfl
    intro p21 hp21
    refine t_lds (by assumption) ab_s_part B rfl ?_ rfl
    intro v22 hv22
    refine t_len e_part (by assumption) rfl rfl ?_ rfl
    refine t_move rfl ?_ rfl
    refine t_done ?_
    refine x_seq ?_
    refine w_block ?_
    refine w_loop (X := Nat × Value) (fun x wq => (fun k v => k ≤ List.length p ∧ Below w51.heap.size w51 wq ∧ Sep w51.heap.size wq [slO byteT 5 v (b ++ vint (List.length p : Int) ++ (intsOf piP piH (p.take k)).flatMap vint)]) x.1 x.2) (fun x => (fun k v => [(24, I ((k : Int))), (5, v), (4, .slice none 0 0), (22, v22), (23, I ((p.length : Int)))]) x.1 x.2) (fun x => (fun k v => List.length p - k) x.1 x.2) (0, v20) ?_ ⟨rfl, rfl, rfl, rfl, rfl, trivial⟩ ?_
    · exact ⟨by omega, B, by simpa [intsOf] using S.f1.tail⟩
    · rintro ⟨k, v⟩ w59 hI
      try dsimp only at hI ⊢
      obtain ⟨hk, B, S⟩ := hI
      refine w_seq ?_
      refine w_region ?_
      refine t_lss rfl rfl ?_ rfl
      refine t_done ?_
      refine x_seq ?_
      refine w_seq ?_
      refine w_if rfl ?_ ?_
      · intro hlt
        obtain ⟨e26, he26⟩ : ∃ e, p[k]? = some e := getx (by omega)
        have hml := mem_len_path (List.mem_of_getElem? he26)
        have hle := take_len_le (f := piP) (g := piH) he26 e26.hops.length
        have hp4 : (piP e26).length = 4 := rfl
        have hf1 := flat_vint (intsOf piP piH (p.take k))
        have hbl : (b ++ vint (List.length p : Int) ++ (intsOf piP piH (p.take k)).flatMap vint).length ≤ 200000000 := by rw [List.length_append, List.length_append]; omega
        refine w_skip ?_
        refine x_seq ?_
        refine w_seq ?_
        refine w_block ?_
        refine w_seq ?_
        refine w_region ?_
        refine t_idx e_part (k := k) (by assumption) he26 B rfl rfl (by first | rfl | omega) ?_ rfl
        intro p26 hp26
        refine t_lda (by assumption) ab_part sb_part B rfl ?_ rfl
        intro v27 hv27
        obtain ⟨v27_3, rfl, hv27_3⟩ := part_va hv27
        refine t_alloc S z_part rfl ?_ rfl rfl
        intro g7 w60 x61 S
        have B := bx Hb B x61
        refine t_stn S sb_part rfl rfl rfl rfl (by intro zz hu; have hu : zz ∈ ([I e26.kind, I e26.ts, I e26.beta, v27_3] : List Value) := hu; simp only [List.mem_cons, List.not_mem_nil, or_false] at hu; rcases hu with rfl | rfl | rfl | rfl <;> first | rfl | exact (SlR.cells (by first | assumption | exact S.tail.sl | exact S.tail.tail.sl | exact S.tail.tail.tail.sl | exact S.tail.tail.tail.tail.sl | exact S.tail.tail.tail.tail.tail.sl | exact S.tail.tail.tail.tail.tail.tail.sl | exact S.tail.tail.tail.tail.tail.tail.tail.sl | exact S.tail.tail.tail.tail.tail.tail.tail.tail.sl)).2) ?_
        intro w62 b63 S
        have B := B.trans b63
        refine t_done ?_
        refine x_seq ?_
        refine w_seq ?_
        refine w_region ?_
        refine t_move rfl ?_ rfl
        refine t_fldx fb_part_0 rfl rfl ?_ rfl
        refine t_bx1 S.box ab_int rfl rfl ?_ rfl
        refine t_fldx fb_part_1 rfl rfl ?_ rfl
        refine t_bx1 S.box ab_int rfl rfl ?_ rfl
        refine t_fldx fb_part_2 rfl rfl ?_ rfl
        refine t_bx1 S.box ab_int rfl rfl ?_ rfl
        refine t_fldx fb_part_3 rfl rfl ?_ rfl
        refine t_bx1 S.box ab_s_hop rfl rfl ?_ rfl
        refine t_len e_hop (by assumption) rfl rfl ?_ rfl
        refine t_lit (T := intT) (l := [e26.kind, e26.ts, e26.beta, (e26.hops.length : Int)]) (css := ([e26.kind, e26.ts, e26.beta, (e26.hops.length : Int)]).map fun a => [I a]) int_flat S (fun w => bs_int4 _ _ _ _ w) rfl rfl rfl rfl (by simp [maxLen]) (litR_int _) ?_ rfl rfl
        intro u38 w64 x65 S
        have B := bx Hb B x65
        refine t_call Try.call76 rfl (impl_appendInts _ _ _ _ _ (S.tail.tail.sl) (S.sl) (by omega) (by first | omega | (simp; done) | (simp; omega)) (by first | (simp; done) | (simp [piH]; done))) ?_ rfl rfl
        rintro e w66 ⟨v39, fpv39, rfl, hOv39, x67⟩
        refine ⟨_, rfl, x67, ?_⟩
        have S := S.add (o := slO _ _ _ _) x67 hOv39
        have B := bx Hb B x67
        refine t_assign rfl ?_ rfl
        refine t_done ?_
        refine x_seq ?_
        refine w_seq ?_
        refine w_region ?_
        refine t_fldx fb_part_3 rfl rfl ?_ rfl
        refine t_bx1 S.tail.tail.box ab_s_hop rfl rfl ?_ rfl
        refine t_len e_hop (by assumption) rfl rfl ?_ rfl
        refine t_move rfl ?_ rfl
        refine t_done ?_
        refine x_seq ?_
        refine w_block ?_
        refine w_loop (X := Nat × Value) (fun x wq => (fun j u => j ≤ e26.hops.length ∧ Below w51.heap.size w51 wq ∧ Sep w51.heap.size wq [slO byteT 5 u (b ++ vint (List.length p : Int) ++ (intsOf piP piH (p.take k)).flatMap vint ++ (piP e26).flatMap vint ++ ((e26.hops.take j).flatMap piH).flatMap vint)]) x.1 x.2) (fun x => (fun j u => [(43, I ((j : Int))), (5, u), (24, I ((k : Int))), (4, .slice none 0 0), (22, v22), (23, I ((p.length : Int))), (41, v27_3), (42, I ((e26.hops.length : Int)))]) x.1 x.2) (fun x => (fun j u => e26.hops.length - j) x.1 x.2) (0, v39) ?_ ⟨rfl, rfl, rfl, rfl, rfl, rfl, rfl, rfl, trivial⟩ ?_
        · refine ⟨by omega, B, ?_⟩
          rw [List.take_zero, List.flatMap_nil, List.flatMap_nil, List.append_nil]
          exact S.rm1.rm1.rm1
        · rintro ⟨j, u⟩ w68 hI
          try dsimp only at hI ⊢
          obtain ⟨hj, B, S⟩ := hI
          refine w_seq ?_
          refine w_region ?_
          refine t_lss rfl rfl ?_ rfl
          refine t_done ?_
          refine x_seq ?_
          refine w_seq ?_
          refine w_if rfl ?_ ?_
          · intro hlt2
            have hle2 := take_len_le (f := piP) (g := piH) he26 j
            have hf2 := flat_vint (piP e26)
            have hf3 := flat_vint ((e26.hops.take j).flatMap piH)
            have hbl2 : (b ++ vint (List.length p : Int) ++ (intsOf piP piH (p.take k)).flatMap vint ++ (piP e26).flatMap vint ++ ((e26.hops.take j).flatMap piH).flatMap vint).length ≤ 400000000 := by rw [List.length_append, List.length_append, List.length_append, List.length_append]; omega
            obtain ⟨e45, he45⟩ : ∃ e, e26.hops[j]? = some e := getx (by omega)
            have hvv := enc_valid h1' he26 he45
            refine w_skip ?_
            refine x_seq ?_
            refine w_seq ?_
            refine w_block ?_
            refine w_seq ?_
            refine w_region ?_
            refine t_idx e_hop (k := j) (by assumption) he45 B rfl rfl (by first | rfl | omega) ?_ rfl
            intro p45 hp45
            refine t_lda (by assumption) ab_hop sb_hop B rfl ?_ rfl
            intro v46 hv46
            obtain rfl := hop_va hv46
            refine t_alloc S z_hop rfl ?_ rfl rfl
            intro g9 w69 x70 S
            have B := bx Hb B x70
            refine t_stn S sb_hop rfl rfl rfl rfl (by simp [Value.oneCell']) ?_
            intro w71 b72 S
            have B := B.trans b72
            refine t_done ?_
            refine x_seq ?_
            refine w_region ?_
            refine t_move rfl ?_ rfl
            refine t_bxn S.box ab_hop sb_hop rfl rfl ?_ rfl
            refine t_call Try.call77 rfl (impl_AppendHop _ _ _ _ (S.tail.sl) (by omega)) ?_ rfl rfl
            rintro e w73 ⟨v49, fpv49, rfl, hOv49, x74⟩
            refine ⟨_, rfl, x74, ?_⟩
            have S := S.add (o := slO _ _ _ _) x74 hOv49
            have B := bx Hb B x74
            refine t_assign rfl ?_ rfl
            refine t_done ?_
            refine x_block_normal ?_
            refine x_seq ?_
            refine w_region ?_
            refine t_add rfl rfl (by omega) ?_ rfl
            refine t_move rfl ?_ rfl
            refine t_done ?_
            have S := S.f1
            have S := S.tail
            have S := S.f1
            have S := S.tail
            refine x_round (X := Nat × Value) (I := (fun x wq => (fun j u => j ≤ e26.hops.length ∧ Below w51.heap.size w51 wq ∧ Sep w51.heap.size wq [slO byteT 5 u (b ++ vint (List.length p : Int) ++ (intsOf piP piH (p.take k)).flatMap vint ++ (piP e26).flatMap vint ++ ((e26.hops.take j).flatMap piH).flatMap vint)]) x.1 x.2)) (F := (fun x => (fun j u => [(43, I ((j : Int))), (5, u), (24, I ((k : Int))), (4, .slice none 0 0), (22, v22), (23, I ((p.length : Int))), (41, v27_3), (42, I ((e26.hops.length : Int)))]) x.1 x.2)) (μ := (fun x => (fun j u => e26.hops.length - j) x.1 x.2)) (j + 1, v49) ?_ (by exact ⟨rfl, rfl, rfl, rfl, rfl, rfl, rfl, rfl, trivial⟩) (by (try dsimp only); omega)
            try dsimp only
            refine ⟨by omega, B, ?_⟩
            rw [flat_snoc he45, List.flatMap_append, ← List.append_assoc]
            rw [hopEnc, if_pos hvv] at S
            exact S
          · intro hge2
            have : j = e26.hops.length := by omega
            subst this
            rw [List.take_length] at S
            refine w_exit ?_
            refine x_then_exit ?_
            refine x_then_exit ?_
            refine x_block_exit ?_
            refine x_block_normal ?_
            refine x_seq ?_
            refine w_region ?_
            refine t_add rfl rfl (by omega) ?_ rfl
            refine t_move rfl ?_ rfl
            refine t_done ?_
            refine x_round (X := Nat × Value) (I := (fun x wq => (fun k v => k ≤ List.length p ∧ Below w51.heap.size w51 wq ∧ Sep w51.heap.size wq [slO byteT 5 v (b ++ vint (List.length p : Int) ++ (intsOf piP piH (p.take k)).flatMap vint)]) x.1 x.2)) (F := (fun x => (fun k v => [(24, I ((k : Int))), (5, v), (4, .slice none 0 0), (22, v22), (23, I ((p.length : Int)))]) x.1 x.2)) (μ := (fun x => (fun k v => List.length p - k) x.1 x.2)) (k + 1, u) ?_ (by exact ⟨rfl, rfl, rfl, rfl, rfl, trivial⟩) (by (try dsimp only); omega)
            try dsimp only
            refine ⟨by omega, B, ?_⟩
            rw [take_succ he26, intsOf_snoc, List.flatMap_append, List.flatMap_append, ← List.append_assoc, ← List.append_assoc]
            exact S
      · intro hge
        refine w_exit ?_
        refine x_then_exit ?_
        refine x_then_exit ?_
        refine x_block_exit ?_
        refine x_seq ?_
        refine w_seq ?_
        refine w_region ?_
        refine t_move rfl ?_ rfl
        refine t_assign rfl ?_ rfl
        refine t_done ?_
        refine x_seq ?_
        refine w_ret ?_
        refine x_ret1 rfl rfl ?_
        have : k = List.length p := by omega
        subst this
        rw [List.take_length] at S
        obtain ⟨fp, hO⟩ := (S.mono X0.size).head
        exact ⟨_, fp, rfl, by rw [pathEnc, h1', if_pos rfl, ← List.append_assoc]; exact hO, ext_trans X0 B⟩
theorem spec_AppendPath (b : List UInt8) (v : Value) (p : Path) (u : Value) (w : World) (h : SlR byteT w v b) (h' : VA pathT w u p) (hz : b.length ≤ 100000000) (hz' : sz_path p ≤ 1048576) (hl : lenOk_path p) (hg : rng_path p) : Calls Try.prog 41 #[v, u] w fun e w' => ∃ v fp, e = .returned v ∧ SlO byteT 5 w.heap.size w' v (b ++ pathEnc p) fp ∧ Below w.heap.size w w' := by
  have hT : (pathInts p).length ≤ 5 * sz_path p := pathInts_len p
  have hpl : List.length p ≤ sz_path p := by show List.length p ≤ List.length p + _; omega
  have hv0 := vint_len (List.length p : Int)
  have hf1 := flat_vint (pathInts p)
  have hbl : (b ++ vint (List.length p : Int)).length ≤ 200000000 := by rw [List.length_append]; omega
  have X0 := Below.refl w.heap.size w
  refine enter Try.func41 rfl Try.ntmps41 rfl ?_
  refine w_seq ?_
  refine w_region ?_
  refine t_boxr (by assumption) rfl ?_ rfl rfl
  intro p3 w75 x76 hp3
  replace h := h.below x76
  replace h' := h'.below x76
  have X0 := ext_trans X0 x76
  have S := Sep.nil w75
  have B := Below.refl w75.heap.size w75
  have Hb := Nat.le_refl w75.heap.size
  refine t_assign rfl ?_ rfl
  refine t_done ?_
  refine x_seq ?_
  refine w_seq ?_
  refine w_region ?_
  refine t_lit (T := byteT) (css := []) (l := []) byte_flat S bs_byte0 rfl rfl rfl rfl (Nat.zero_le _) litR_nil ?_ rfl rfl
  intro u6 w77 x78 S
  have B := bx Hb B x78
  refine t_move rfl ?_ rfl
  refine t_cat byte_flat e_byte S (by first | assumption | exact SlR.below (by assumption) B) rfl rfl rfl (by first | omega | (simp [-List.length_flatMap]; omega)) (by (simp [maxLen, -List.length_flatMap]; try omega)) ?_ rfl
  intro v8 w79 x80 S
  have B := B.trans x80
  refine t_assign rfl ?_ rfl
  refine t_done ?_
  refine x_seq ?_
  refine w_seq ?_
  refine w_seq ?_
  refine w_region ?_
  refine t_lda (by assumption) ab_path sb_path B rfl ?_ rfl
  intro v9 hv9
  obtain ⟨v9_0, rfl, hv9_0⟩ := path_va hv9
  refine t_callx Try.call51 rfl (va1 (by first | assumption | exact VA.below (by assumption) B | exact path_mkv (by first | assumption | exact SlR.below (by assumption) B)) fun cs h => spec_EncodablePath _ cs _ h (by omega) (by assumption) (by assumption)) ?_ rfl rfl
  intro w81 x82
  have B := bx Hb B x82
  have S := S.below x82
  refine t_notb rfl ?_ rfl
  refine t_done ?_
  refine x_seq ?_
  refine w_ifb rfl ?_ ?_
  · intro h1
    have h1' : encPath p = false := by simpa using h1
    refine w_seq ?_
    refine w_region ?_
    refine t_move rfl ?_ rfl
    refine t_assign rfl ?_ rfl
    refine t_done ?_
    refine x_seq ?_
    refine w_ret ?_
    refine x_then_ret ?_
    refine x_ret1 rfl rfl ?_
    obtain ⟨fp, hO⟩ := (S.mono X0.size).head
    exact ⟨_, fp, rfl, by rw [pathEnc, h1', if_neg (by simp), List.append_nil]; exact hO, ext_trans X0 B⟩
  · intro h1
    have h1' : encPath p = true := by simpa using h1
    refine w_skip ?_
    refine x_seq ?_
    refine w_seq ?_
    refine w_draw (.st .take 0 (.st .take 1 (.st .take 2 (.st .take 3 (.st .take 5 (.st .run 4 (.st .run 6 (.st .run 7 (.st .fin 8 (.st .fin 9 .done)))))))))) mixed (by kernel_rfl) ?_
    intro w83 x84
    have B := bx Hb B x84
    have S := S.below x84
    refine t_move rfl ?_ rfl
    refine t_fld ln_path_0 (by assumption) fb_path_0 rfl ?_ rfl
    intro p14 hp14
    refine t_lds (by assumption) ab_s_part B rfl ?_ rfl
    intro v15 hv15
    refine t_len e_part (by assumption) rfl rfl ?_ rfl
    refine t_lda (by assumption) ab_path sb_path B rfl ?_ rfl
    intro v18 hv18
    obtain ⟨v18_0, rfl, hv18_0⟩ := path_va hv18
    refine t_call Try.call86 rfl (spec_AppendVarint _ _ _ _ (S.sl) (by first | omega | (simp only [List.nil_append]; omega))) ?_ rfl rfl
    rintro e w85 ⟨v17, fpv17, rfl, hOv17, x86⟩
    refine ⟨_, rfl, x86, ?_⟩
    have S := S.add (o := slO _ _ _ _) x86 hOv17
    have B := bx Hb B x86
    refine t_call Try.call45 rfl (va1 (by first | assumption | exact VA.below (by assumption) B | exact path_mkv (by first | assumption | exact SlR.below (by assumption) B)) fun cs h => spec_PathInts _ cs _ h (by omega) (by assumption) (by assumption)) ?_ rfl rfl
    rintro e w87 ⟨v19, fpv19, rfl, hOv19, x88⟩
    refine ⟨_, rfl, x88, ?_⟩
    have S := S.add (o := slO _ _ _ _) x88 hOv19
    have B := bx Hb B x88
    refine t_call Try.call87 rfl (spec_EncodeInts _ _ _ (S.sl) (by first | omega | (simp; done) | (simp; omega))) ?_ rfl rfl
    rintro e w89 ⟨v20, fpv20, rfl, hOv20, x90⟩
    refine ⟨_, rfl, x90, ?_⟩
    have S := S.add (o := slO _ _ _ _) x90 hOv20
    have B := bx Hb B x90
    have hR := S.sl
    have S := S.f2
    refine t_cat byte_flat e_byte S hR rfl rfl rfl (by first | omega | (simp [-List.length_flatMap]; omega)) (by (simp [maxLen, -List.length_flatMap]; try omega)) ?_ rfl
    intro v21 w91 x92 S
    have B := B.trans x92
    clear hR
    refine t_assign rfl ?_ rfl
    refine t_done' ?_
    refine x_seq ?_
    refine w_ret ?_
    refine x_ret1 rfl rfl ?_
    obtain ⟨fp, hO⟩ := (S.mono X0.size).head
    exact ⟨_, fp, rfl, by rw [pathEnc, h1', if_pos rfl, ← List.append_assoc]; exact hO, ext_trans X0 B⟩
theorem impl_PathSize (p : Path) (u : Value) (w : World) (h' : VA pathT w u p) (hz' : sz_path p ≤ 1048576) (hl : lenOk_path p) (hg : rng_path p) : Calls Try.prog 46 #[u] w fun e w' => e = .returned (I ((pathEnc p).length : Int)) ∧ Below w.heap.size w w' := by
  have X0 := Below.refl w.heap.size w
  refine enter Try.func46 rfl Try.ntmps46 rfl ?_
  refine w_seq ?_
  refine w_region ?_
  refine t_boxr (by assumption) rfl ?_ rfl rfl
  intro p1 w93 x94 hp1
  replace h' := h'.below x94
  have X0 := ext_trans X0 x94
  have S := Sep.nil w93
  have B := Below.refl w93.heap.size w93
  have Hb := Nat.le_refl w93.heap.size
  refine t_assign rfl ?_ rfl
  refine t_done ?_
  refine x_seq ?_
  refine w_seq ?_
  refine w_region ?_
  refine t_lda (by assumption) ab_path sb_path B rfl ?_ rfl
  intro v3 hv3
  obtain ⟨v3_0, rfl, hv3_0⟩ := path_va hv3
  refine t_call Try.call33 rfl (impl_AppendPath _ _ _ _ _ nilR (by first | assumption | exact VA.below (by assumption) B | exact path_mkv (by first | assumption | exact SlR.below (by assumption) B)) (by first | omega | (simp; done) | (simp only [List.length_append]; omega)) (by omega) (by assumption) (by assumption)) ?_ rfl rfl
  rintro e w95 ⟨v4, fpv4, rfl, hOv4, x96⟩
  refine ⟨_, rfl, x96, ?_⟩
  have S := S.add (o := slO _ _ _ _) x96 hOv4
  have B := bx Hb B x96
  refine t_len e_byte (S.sl) rfl rfl ?_ rfl
  refine t_assign rfl ?_ rfl
  refine t_done ?_
  refine x_seq ?_
  refine w_ret ?_
  refine x_ret1 rfl rfl ?_
  exact ⟨rfl, ext_trans X0 B⟩
theorem spec_PathSize (p : Path) (u : Value) (w : World) (h' : VA pathT w u p) (hz' : sz_path p ≤ 1048576) (hl : lenOk_path p) (hg : rng_path p) : Calls Try.prog 47 #[u] w fun e w' => e = .returned (I ((pathEnc p).length : Int)) ∧ Below w.heap.size w w' := by
  have X0 := Below.refl w.heap.size w
  refine enter Try.func47 rfl Try.ntmps47 rfl ?_
  refine w_seq ?_
  refine w_region ?_
  refine t_boxr (by assumption) rfl ?_ rfl rfl
  intro p1 w97 x98 hp1
  replace h' := h'.below x98
  have X0 := ext_trans X0 x98
  have S := Sep.nil w97
  have B := Below.refl w97.heap.size w97
  have Hb := Nat.le_refl w97.heap.size
  refine t_assign rfl ?_ rfl
  refine t_done ?_
  refine x_seq ?_
  refine w_seq ?_
  refine w_region ?_
  refine t_lit (T := byteT) (css := []) (l := []) byte_flat S bs_byte0 rfl rfl rfl rfl (Nat.zero_le _) litR_nil ?_ rfl rfl
  intro u3 w99 x100 S
  have B := bx Hb B x100
  refine t_lda (by assumption) ab_path sb_path B rfl ?_ rfl
  intro v4 hv4
  obtain ⟨v4_0, rfl, hv4_0⟩ := path_va hv4
  refine t_call Try.call41 rfl (spec_AppendPath _ _ _ _ _ (S.sl) (by first | assumption | exact VA.below (by assumption) B | exact path_mkv (by first | assumption | exact SlR.below (by assumption) B)) (by first | omega | (simp; done) | (simp only [List.length_append]; omega)) (by omega) (by assumption) (by assumption)) ?_ rfl rfl
  rintro e w101 ⟨v5, fpv5, rfl, hOv5, x102⟩
  refine ⟨_, rfl, x102, ?_⟩
  have S := S.add (o := slO _ _ _ _) x102 hOv5
  have B := bx Hb B x102
  refine t_len e_byte (S.sl) rfl rfl ?_ rfl
  refine t_assign rfl ?_ rfl
  refine t_done ?_
  refine x_seq ?_
  refine w_ret ?_
  refine x_ret1 rfl rfl ?_
  exact ⟨rfl, ext_trans X0 B⟩
theorem pathEnc_len (p : Path) (hz : sz_path p ≤ 1048576) : (pathEnc p).length ≤ 100000000 := by
  have hT : (pathInts p).length ≤ 5 * sz_path p := pathInts_len p
  have hv0 := vint_len (List.length p : Int)
  have hf1 := flat_vint (pathInts p)
  unfold pathEnc
  split
  · rw [List.length_append]; omega
  · simp
end Go.Proofs.Ytdaecknfahgddaa
namespace Go.Proofs.Ytdaecknfahgddaa
set_option linter.unusedVariables false
theorem SepF.pull {b : Nat} {w : World} {o : Ow} {os : List Ow} : ∀ {l : List Ow} {fp : List Nat}, SepF b w (l ++ o :: os) fp → ∃ fp', SepF b w (o :: (l ++ os)) fp' ∧ ∀ x, x ∈ fp' → x ∈ fp
  | [], fp, h => ⟨fp, h, fun _ h => h⟩
  | o1 :: l, fp, h => by
    obtain ⟨f, g, rfl, h1, h2, h3⟩ := h
    obtain ⟨g', ⟨f2, g2, rfl, k1, k2, k3⟩, h5⟩ := SepF.pull (l := l) h2
    refine ⟨f2 ++ (f ++ g2), ⟨f2, f ++ g2, rfl, k1, ⟨f, g2, rfl, h1, k2, fun x hx hy => h3 x hx (h5 x (List.mem_append.2 (.inr hy)))⟩, ?_⟩, ?_⟩
    · intro x hx hy
      rcases List.mem_append.1 hy with hy | hy
      · exact h3 x hy (h5 x (List.mem_append.2 (.inl hx)))
      · exact k3 x hx hy
    · intro x hx
      simp only [List.mem_append] at hx ⊢
      rcases hx with hx | hx | hx
      · exact .inr (h5 x (List.mem_append.2 (.inl hx)))
      · exact .inl hx
      · exact .inr (h5 x (List.mem_append.2 (.inr hx)))
theorem Sep.pull {b : Nat} {w : World} {o : Ow} {os : List Ow} (l : List Ow) (h : Sep b w (l ++ o :: os)) : Sep b w (o :: (l ++ os)) := by
  obtain ⟨h1, fp, h2⟩ := h
  obtain ⟨fp', h3, _⟩ := h2.pull
  exact ⟨h1, fp', h3⟩
theorem Sep.f4 {b : Nat} {w : World} {o o0 o1 o2 o3 : Ow} {os : List Ow} (h : Sep b w (o0 :: o1 :: o2 :: o3 :: o :: os)) : Sep b w (o :: o0 :: o1 :: o2 :: o3 :: os) := Sep.pull [o0, o1, o2, o3] h
theorem Sep.f5 {b : Nat} {w : World} {o o0 o1 o2 o3 o4 : Ow} {os : List Ow} (h : Sep b w (o0 :: o1 :: o2 :: o3 :: o4 :: o :: os)) : Sep b w (o :: o0 :: o1 :: o2 :: o3 :: o4 :: os) := Sep.pull [o0, o1, o2, o3, o4] h
theorem Sep.f6 {b : Nat} {w : World} {o o0 o1 o2 o3 o4 o5 : Ow} {os : List Ow} (h : Sep b w (o0 :: o1 :: o2 :: o3 :: o4 :: o5 :: o :: os)) : Sep b w (o :: o0 :: o1 :: o2 :: o3 :: o4 :: o5 :: os) := Sep.pull [o0, o1, o2, o3, o4, o5] h
theorem Sep.f7 {b : Nat} {w : World} {o o0 o1 o2 o3 o4 o5 o6 : Ow} {os : List Ow} (h : Sep b w (o0 :: o1 :: o2 :: o3 :: o4 :: o5 :: o6 :: o :: os)) : Sep b w (o :: o0 :: o1 :: o2 :: o3 :: o4 :: o5 :: o6 :: os) := Sep.pull [o0, o1, o2, o3, o4, o5, o6] h
theorem Sep.f8 {b : Nat} {w : World} {o o0 o1 o2 o3 o4 o5 o6 o7 : Ow} {os : List Ow} (h : Sep b w (o0 :: o1 :: o2 :: o3 :: o4 :: o5 :: o6 :: o7 :: o :: os)) : Sep b w (o :: o0 :: o1 :: o2 :: o3 :: o4 :: o5 :: o6 :: o7 :: os) := Sep.pull [o0, o1, o2, o3, o4, o5, o6, o7] h
theorem Sep.f9 {b : Nat} {w : World} {o o0 o1 o2 o3 o4 o5 o6 o7 o8 : Ow} {os : List Ow} (h : Sep b w (o0 :: o1 :: o2 :: o3 :: o4 :: o5 :: o6 :: o7 :: o8 :: o :: os)) : Sep b w (o :: o0 :: o1 :: o2 :: o3 :: o4 :: o5 :: o6 :: o7 :: o8 :: os) := Sep.pull [o0, o1, o2, o3, o4, o5, o6, o7, o8] h
theorem Sep.f10 {b : Nat} {w : World} {o o0 o1 o2 o3 o4 o5 o6 o7 o8 o9 : Ow} {os : List Ow} (h : Sep b w (o0 :: o1 :: o2 :: o3 :: o4 :: o5 :: o6 :: o7 :: o8 :: o9 :: o :: os)) : Sep b w (o :: o0 :: o1 :: o2 :: o3 :: o4 :: o5 :: o6 :: o7 :: o8 :: o9 :: os) := Sep.pull [o0, o1, o2, o3, o4, o5, o6, o7, o8, o9] h
theorem Sep.f11 {b : Nat} {w : World} {o o0 o1 o2 o3 o4 o5 o6 o7 o8 o9 o10 : Ow} {os : List Ow} (h : Sep b w (o0 :: o1 :: o2 :: o3 :: o4 :: o5 :: o6 :: o7 :: o8 :: o9 :: o10 :: o :: os)) : Sep b w (o :: o0 :: o1 :: o2 :: o3 :: o4 :: o5 :: o6 :: o7 :: o8 :: o9 :: o10 :: os) := Sep.pull [o0, o1, o2, o3, o4, o5, o6, o7, o8, o9, o10] h
theorem Sep.f12 {b : Nat} {w : World} {o o0 o1 o2 o3 o4 o5 o6 o7 o8 o9 o10 o11 : Ow} {os : List Ow} (h : Sep b w (o0 :: o1 :: o2 :: o3 :: o4 :: o5 :: o6 :: o7 :: o8 :: o9 :: o10 :: o11 :: o :: os)) : Sep b w (o :: o0 :: o1 :: o2 :: o3 :: o4 :: o5 :: o6 :: o7 :: o8 :: o9 :: o10 :: o11 :: os) := Sep.pull [o0, o1, o2, o3, o4, o5, o6, o7, o8, o9, o10, o11] h
theorem Sep.f13 {b : Nat} {w : World} {o o0 o1 o2 o3 o4 o5 o6 o7 o8 o9 o10 o11 o12 : Ow} {os : List Ow} (h : Sep b w (o0 :: o1 :: o2 :: o3 :: o4 :: o5 :: o6 :: o7 :: o8 :: o9 :: o10 :: o11 :: o12 :: o :: os)) : Sep b w (o :: o0 :: o1 :: o2 :: o3 :: o4 :: o5 :: o6 :: o7 :: o8 :: o9 :: o10 :: o11 :: o12 :: os) := Sep.pull [o0, o1, o2, o3, o4, o5, o6, o7, o8, o9, o10, o11, o12] h
theorem Sep.f14 {b : Nat} {w : World} {o o0 o1 o2 o3 o4 o5 o6 o7 o8 o9 o10 o11 o12 o13 : Ow} {os : List Ow} (h : Sep b w (o0 :: o1 :: o2 :: o3 :: o4 :: o5 :: o6 :: o7 :: o8 :: o9 :: o10 :: o11 :: o12 :: o13 :: o :: os)) : Sep b w (o :: o0 :: o1 :: o2 :: o3 :: o4 :: o5 :: o6 :: o7 :: o8 :: o9 :: o10 :: o11 :: o12 :: o13 :: os) := Sep.pull [o0, o1, o2, o3, o4, o5, o6, o7, o8, o9, o10, o11, o12, o13] h
end Go.Proofs.Ytdaecknfahgddaa
namespace Go.Proofs.Ytdaecknfahgddaa
open Go.RowKit
set_option linter.unusedVariables false
/-- The cursor's box: the bytes, some place in them, some number. -/
def curO (v : Value) (n : Nat) (g : Nat) (t : TypeId) : Ow where
  P b w fp := fp = [g] ∧ b ≤ g ∧ ∃ i h : Int, 0 ≤ i ∧ i ≤ (n : Int) ∧ w.heap[g]? = some (.cells #[v, I i, I h] t (0, 0))
  lt := by
    rintro b w fp ⟨rfl, h2, i, h, _, _, h3⟩ x hx
    simp at hx
    subst hx
    exact ⟨h2, (Array.getElem?_eq_some_iff.1 h3).1⟩
  keep := by
    rintro b w w' fp ⟨h1, h2, i, h, h4, h5, h3⟩ k
    exact ⟨h1, h2, i, h, h4, h5, by rw [k _ (by rw [h1]; simp)]; exact h3⟩
  mono := by
    rintro b b' w fp hb ⟨h1, h2, h3⟩
    exact ⟨h1, by omega, h3⟩
section
variable {b : Nat} {w : World} {os : List Ow} {v : Value} {n g : Nat} {t : TypeId}
theorem Sep.curOpen (S : Sep b w (curO v n g t :: os)) : ∃ i h : Int, 0 ≤ i ∧ i ≤ (n : Int) ∧ Sep b w (bxO g t #[v, I i, I h] :: os) := by
  obtain ⟨fp, h1, h2, i, h, h4, h5, h3⟩ := S.head
  refine ⟨i, h, h4, h5, S.conv fun f hf => ?_⟩
  obtain ⟨k1, k2, _⟩ := hf
  exact ⟨k1, k2, h3⟩
theorem Sep.curShut {i h : Int} (S : Sep b w (bxO g t #[v, I i, I h] :: os)) (h0 : 0 ≤ i) (h1 : i ≤ (n : Int)) : Sep b w (curO v n g t :: os) :=
  S.conv fun f ⟨k1, k2, k3⟩ => ⟨k1, k2, i, h, h0, h1, k3⟩
end
theorem i64_and255 (n : Int) : bits .and .i64 n 255 = n % 256 := by
  have h255 : (BitVec.ofInt 64 255).toNat = 2 ^ 8 - 1 := by decide
  have key : (BitVec.ofInt 64 n &&& BitVec.ofInt 64 255).toNat = (n % ((2 ^ 64 : Nat) : Int)).toNat % 2 ^ 8 := by
    rw [BitVec.toNat_and, BitVec.toNat_ofInt, h255, Nat.and_two_pow_sub_one_eq_mod]
  show IntKind.i64.wrap ((BitVec.ofInt 64 n &&& BitVec.ofInt 64 255).toNat : Nat) = n % 256
  rw [key, IntKind.wrap_i64]
  omega
section
variable {P : Program} {n : Nat} {ops : Array Oper} {Q : Exit → Act → World → Prop} {L : Frm} {w : World} {m : Md} {r : IT} {d : Nat} {ty : TypeId} {pos : String} {af : Array Edge}
theorem t_and255 {x y : Operand} {t t' : TypeId} {a : Int} (hx : ev L x = some (I a)) (hy : ev L y = some (I 255)) (k : WT P n ops Q r ((d, I (a % 256)) :: L) w) (hn : Nat.blt d n = true) : WT P n ops Q (.st m ⟨some d, .binOp .and t x y t', ty, pos, af, none⟩ r) L w :=
  t_read (fun e ha _ _ _ w' _ => by simp [execOp, ha.ev hx, ha.ev hy, eqGuard, binOp, intBits_and, i64_and255]) k hn
theorem t_bitA {op : BinOp} (ho : op = .and ∨ op = .xor ∨ op = .or) {x y : Operand} {t t' : TypeId} {a b : Int} (hx : ev L x = some (I a)) (hy : ev L y = some (I b)) (k : ∀ z, WT P n ops Q r ((d, I z) :: L) w) (hn : Nat.blt d n = true) : WT P n ops Q (.st m ⟨some d, .binOp op t x y t', ty, pos, af, none⟩ r) L w := by
  rcases ho with rfl | rfl | rfl
  all_goals exact t_read (fun e ha _ _ _ w' _ => by simp [execOp, ha.ev hx, ha.ev hy, eqGuard, binOp, Op.intBits]; rfl) (k _) hn
theorem t_shrA {x y : Operand} {t t' : TypeId} {kd : IntKind} {a c : Int} (hx : ev L x = some (I a)) (hy : ev L y = some (.int kd c)) (hc : 0 ≤ c) (k : ∀ z, WT P n ops Q r ((d, I z) :: L) w) (hn : Nat.blt d n = true) : WT P n ops Q (.st m ⟨some d, .binOp .shr t x y t', ty, pos, af, none⟩ r) L w :=
  t_read (fun e ha _ _ _ w' _ => by simp [execOp, ha.ev hx, ha.ev hy, eqGuard, binOp, shift_shr_any .i64 kd a c hc]; rfl) (k _) hn
end
end Go.Proofs.Ytdaecknfahgddaa
namespace Go.Proofs.Ytdaecknfahgddaa
open Go.RowKit
set_option linter.unusedVariables false
set_option maxRecDepth 20000
def gI (l : List Int) (i : Nat) : Int := l[i]?.getD 0
theorem gI_eq {l : List Int} {i : Nat} {x : Int} (h : l[i]? = some x) : gI l i = x := by unfold gI; rw [h]; rfl
def hopAt (l : List Int) (i : Nat) : Hop := ⟨gI l i, gI l (i + 1), gI l (i + 2), gI l (i + 3), gI l (i + 4)⟩
def hopsAt (l : List Int) (i n : Nat) : List Hop := (List.range n).map fun j => hopAt l (i + 5 * j)
theorem hopsAt_succ (l : List Int) (i n : Nat) : hopsAt l i (n + 1) = hopsAt l i n ++ [hopAt l (i + 5 * n)] := by
  unfold hopsAt; rw [List.range_succ, List.map_append]; rfl
theorem hopsAt_len (l : List Int) (i n : Nat) : (hopsAt l i n).length = n := by unfold hopsAt; simp
def partAt (l : List Int) (i : Nat) : Part := ⟨gI l i, gI l (i + 1), gI l (i + 2), hopsAt l (i + 4) (gI l (i + 3)).toNat⟩
def okAt (l : List Int) (i : Nat) : Prop := i + 4 ≤ l.length ∧ (0 ≤ gI l (i + 3) ∧ gI l (i + 3) ≤ 8) ∧ i + 4 + 5 * (gI l (i + 3)).toNat ≤ l.length
instance (l : List Int) (i : Nat) : Decidable (okAt l i) := by unfold okAt; infer_instance
/-- The parts that the numbers from place i on spell. -/
def pfi (l : List Int) (i : Nat) (acc : Path) : Option Path := if h : i < l.length then (if okAt l i then pfi l (i + 4 + 5 * (gI l (i + 3)).toNat) (acc ++ [partAt l i]) else none) else some acc
termination_by l.length - i
decreasing_by omega
theorem pfi_done {l : List Int} {i : Nat} {acc : Path} (h : ¬ i < l.length) : pfi l i acc = some acc := by rw [pfi, dif_neg h]
theorem pfi_bad {l : List Int} {i : Nat} {acc : Path} (h : i < l.length) (hb : ¬ okAt l i) : pfi l i acc = none := by rw [pfi, dif_pos h, if_neg hb]
theorem pfi_step {l : List Int} {i : Nat} {acc : Path} (h : i < l.length) (hb : okAt l i) : pfi l i acc = pfi l (i + 4 + 5 * (gI l (i + 3)).toNat) (acc ++ [partAt l i]) := by rw [pfi, dif_pos h, if_pos hb]
def pathOf (l : List Int) : Path × Bool := match pfi l 0 [] with
  | none => ([], false)
  | some p => if encPath p then (p, true) else ([], false)
theorem pathOf_bad {l : List Int} (h : pfi l 0 [] = none) : pathOf l = ([], false) := by unfold pathOf; rw [h]
theorem pathOf_no {l : List Int} {p : Path} (h : pfi l 0 [] = some p) (he : encPath p = false) : pathOf l = ([], false) := by unfold pathOf; rw [h]; simp [he]
theorem pathOf_yes {l : List Int} {p : Path} (h : pfi l 0 [] = some p) (he : encPath p = true) : pathOf l = (p, true) := by unfold pathOf; rw [h]; simp [he]
theorem gI_in {l : List Int} (h : ∀ x ∈ l, In64 x) (i : Nat) : In64 (gI l i) := by
  unfold gI
  cases hx : l[i]? with
  | none => exact ⟨by decide, by decide⟩
  | some x => exact h x (List.mem_of_getElem? hx)
theorem partAt_rng {l : List Int} (h : ∀ x ∈ l, In64 x) (i : Nat) : rng_part (partAt l i) := by
  refine ⟨gI_in h _, gI_in h _, gI_in h _, fun x hx => ?_⟩
  obtain ⟨j, _, rfl⟩ := List.mem_map.1 hx
  exact ⟨gI_in h _, gI_in h _, gI_in h _, gI_in h _, gI_in h _⟩
theorem sz_snoc (p : Path) (x : Part) : sz_path (p ++ [x]) = sz_path p + 1 + x.hops.length := by
  show List.length (p ++ [x]) + _ = List.length p + _ + 1 + _
  simp [sz_part]; omega
theorem lenOk_sz {p : Path} (h : sz_path p ≤ 1048576) : lenOk_path p := by
  have h' : List.length p + (p.map sz_part).sum ≤ 1048576 := h
  refine ⟨by show List.length p ≤ _; omega, fun x hx => ?_⟩
  have := mem_len_path hx
  show x.hops.length ≤ _
  omega
theorem encPath_sz {p : Path} (h : encPath p = true) : sz_path p ≤ 27 := by
  unfold encPath at h
  rw [Bool.and_eq_true, List.all_eq_true, decide_eq_true_eq] at h
  show List.length p + (p.map sz_part).sum ≤ 27
  have h8 : ∀ x ∈ p, sz_part x ≤ 8 := fun x hx => by
    have := h.2 x hx
    unfold encPart encHops at this
    simp only [Bool.and_eq_true, decide_eq_true_eq] at this
    exact this.2.2.1
  have h3 : List.length p ≤ 3 := h.1
  have : ∀ q : List Part, (∀ x ∈ q, sz_part x ≤ 8) → (q.map sz_part).sum ≤ 8 * q.length := by
    intro q
    induction q with
    | nil => simp
    | cons a t ih =>
      intro hq
      have h1 := hq a (by simp)
      have h2 := ih fun x hx => hq x (by simp [hx])
      simp only [List.map_cons, List.sum_cons, List.length_cons]
      omega
  have := this p h8
  have e : List.length p = p.length := rfl
  omega
theorem pathOf_sz (l : List Int) : sz_path (pathOf l).1 ≤ 27 := by
  unfold pathOf
  split
  · exact Nat.zero_le _
  · split
    · rename_i h; exact encPath_sz h
    · exact Nat.zero_le _
theorem impl_PathFromInts (l : List Int) (v : Value) (w : World) (h : SlR intT w v l) (hz : l.length ≤ 1048576) (hg : ∀ x ∈ l, In64 x) : Calls Try.prog 38 #[v] w fun e w' => ∃ cs fp, e = .returned (.tuple #[.agg cs.toArray, .bool (pathOf l).2]) ∧ pathT.O w.heap.size w' cs (pathOf l).1 fp ∧ Below w.heap.size w w' := by
  have X0 := Below.refl w.heap.size w
  refine enter Try.func38 rfl Try.ntmps38 rfl ?_
  refine w_seq ?_
  refine w_region ?_
  have S := Sep.nil w
  have B := Below.refl w.heap.size w
  have Hb := Nat.le_refl w.heap.size
  refine t_alloc S z_path rfl ?_ rfl rfl
  intro g2 w1 x2 S
  have B := bx Hb B x2
  refine t_assign rfl ?_ rfl
  refine t_done ?_
  refine x_seq ?_
  refine w_seq ?_
  refine w_region ?_
  refine t_alloc S z_path rfl ?_ rfl rfl
  intro g4 w3 x4 S
  have B := bx Hb B x4
  refine t_done ?_
  refine x_seq ?_
  refine w_seq ?_
  refine w_seq ?_
  refine w_region ?_
  refine t_assign rfl ?_ rfl
  refine t_done ?_
  refine x_seq ?_
  refine w_block ?_
  refine w_loop (X := Nat × Path × Value) (fun x wq => (fun i acc q => i ≤ l.length ∧ pfi l i acc = pfi l 0 [] ∧ sz_path acc ≤ i ∧ rng_path acc ∧ Below w.heap.size w wq ∧ Sep w.heap.size wq [bxO g4 30 #[q], slO partT 71 q acc, bxO g2 30 #[.slice none 0 0]]) x.1 x.2.1 x.2.2) (fun x => (fun i acc q => [(5, I ((i : Int))), (0, v), (2, .pointer (some ⟨g2, 0, none⟩)), (4, .pointer (some ⟨g4, 0, none⟩))]) x.1 x.2.1 x.2.2) (fun x => (fun i acc q => l.length - i) x.1 x.2.1 x.2.2) (0, [], .slice none 0 0) ?_ ⟨rfl, rfl, rfl, rfl, trivial⟩ ?_
  · exact ⟨by omega, rfl, Nat.le_refl _, (fun x hx => by cases hx), B, S.addNil.f1⟩
  · rintro ⟨i, acc, q⟩ w5 hI
    try dsimp only at hI ⊢
    obtain ⟨hi, hp, hsz, hrg, B, S⟩ := hI
    refine w_seq ?_
    refine w_seq ?_
    refine w_region ?_
    refine t_move rfl ?_ rfl
    refine t_move rfl ?_ rfl
    refine t_len e_int (by assumption) rfl rfl ?_ rfl
    refine t_lss rfl rfl ?_ rfl
    refine t_done ?_
    refine x_seq ?_
    refine w_if rfl ?_ ?_
    · intro hlt
      have hlt' : i < l.length := by omega
      refine w_skip ?_
      refine x_seq ?_
      refine w_block ?_
      refine w_seq ?_
      refine w_seq ?_
      refine w_region ?_
      refine t_move rfl ?_ rfl
      refine t_add rfl rfl (by omega) ?_ rfl
      refine t_move rfl ?_ rfl
      refine t_len e_int (by assumption) rfl rfl ?_ rfl
      refine t_gtr rfl rfl ?_ rfl
      refine t_move rfl ?_ rfl
      refine t_partp (t := 18) rfl ?_ ?_
      · intro h1
        refine t_off rfl rfl rfl ?_ rfl
        refine t_off rfl rfl rfl ?_ rfl
        refine t_off rfl rfl rfl ?_ rfl
        refine t_off rfl rfl rfl ?_ rfl
        refine t_off rfl rfl rfl ?_ rfl
        refine t_off rfl rfl rfl ?_ rfl
        refine t_off rfl rfl rfl ?_ rfl
        refine t_pickt rfl rfl ?_ rfl
        refine t_move rfl ?_ rfl
        refine t_off rfl rfl rfl ?_ rfl
        refine t_off rfl rfl rfl ?_ rfl
        refine t_off rfl rfl rfl ?_ rfl
        refine t_off rfl rfl rfl ?_ rfl
        refine t_off rfl rfl rfl ?_ rfl
        refine t_off rfl rfl rfl ?_ rfl
        refine t_off rfl rfl rfl ?_ rfl
        refine t_off rfl rfl rfl ?_ rfl
        refine t_off rfl rfl rfl ?_ rfl
        refine t_off rfl rfl rfl ?_ rfl
        refine t_off rfl rfl rfl ?_ rfl
        refine t_off rfl rfl rfl ?_ rfl
        refine t_pickt rfl rfl ?_ rfl
        refine t_done ?_
        refine x_seq ?_
        refine w_yes rfl ?_
        refine w_seq ?_
        refine w_region ?_
        refine t_build (fun w => b_path0 w) rfl ?_ rfl
        have S := S.f2
        refine t_stn S sb_path rfl rfl rfl rfl (by simp [Value.oneCell']) ?_
        intro w6 b7 S
        have B := B.trans b7
        refine t_assign rfl ?_ rfl
        refine t_done ?_
        refine x_seq ?_
        refine w_ret ?_
        refine x_then_ret ?_
        refine x_block_ret ?_
        refine x_then_ret ?_
        refine x_block_ret ?_
        refine x_then_ret ?_
        refine x_retct rfl rfl S.box ab_path sb_path rfl rfl ?_
        have hbad := pathOf_bad (hp.symm.trans (pfi_bad hlt' (fun hk => by have := hk.1; omega)))
        obtain ⟨fp, hO⟩ := ((S.addNil (T := partT) (e := 71)).pathShut (x := [])).head
        exact ⟨_, fp, by rw [hbad], by rw [hbad]; exact pathT.mono _ _ _ _ _ _ X0.size hO, ext_trans X0 B⟩
      intro h1
      refine t_on rfl rfl ?_
      refine t_move rfl ?_ rfl
      refine t_on rfl rfl ?_
      refine t_move rfl ?_ rfl
      refine t_on rfl rfl ?_
      refine t_add rfl rfl (by omega) ?_ rfl
      refine t_on rfl rfl ?_
      obtain ⟨e22, he22⟩ : ∃ e, (l)[(i + 3)]? = some e := getx (by omega)
      refine t_idx e_int (k := (i + 3)) (by assumption) he22 B rfl rfl (by first | rfl | omega) ?_ rfl
      intro p22 hp22
      refine t_on rfl rfl ?_
      refine t_ldi (by assumption) ab_int B rfl ?_ rfl
      refine t_on rfl rfl ?_
      refine t_calls Try.call57 rfl (impl_InRange _ _ _ _) ?_ rfl rfl
      refine t_on rfl rfl ?_
      refine t_notb rfl ?_ rfl
      refine t_pickf rfl rfl ?_ rfl
      refine t_move rfl ?_ rfl
      have hgn := gI_eq he22
      refine t_part (t := 27) rfl ?_ ?_
      · intro h2
        refine t_off rfl rfl rfl ?_ rfl
        refine t_off rfl rfl rfl ?_ rfl
        refine t_off rfl rfl rfl ?_ rfl
        refine t_off rfl rfl rfl ?_ rfl
        refine t_off rfl rfl rfl ?_ rfl
        refine t_off rfl rfl rfl ?_ rfl
        refine t_off rfl rfl rfl ?_ rfl
        refine t_off rfl rfl rfl ?_ rfl
        refine t_off rfl rfl rfl ?_ rfl
        refine t_off rfl rfl rfl ?_ rfl
        refine t_off rfl rfl rfl ?_ rfl
        refine t_off rfl rfl rfl ?_ rfl
        refine t_pickt rfl rfl ?_ rfl
        refine t_done ?_
        refine x_seq ?_
        refine w_yes rfl ?_
        refine w_seq ?_
        refine w_region ?_
        refine t_build (fun w => b_path0 w) rfl ?_ rfl
        have S := S.f2
        refine t_stn S sb_path rfl rfl rfl rfl (by simp [Value.oneCell']) ?_
        intro w8 b9 S
        have B := B.trans b9
        refine t_assign rfl ?_ rfl
        refine t_done ?_
        refine x_seq ?_
        refine w_ret ?_
        refine x_then_ret ?_
        refine x_block_ret ?_
        refine x_then_ret ?_
        refine x_block_ret ?_
        refine x_then_ret ?_
        refine x_retct rfl rfl S.box ab_path sb_path rfl rfl ?_
        have h2' : inR e22 0 8 = false := by simpa using h2
        have hbad := pathOf_bad (hp.symm.trans (pfi_bad hlt' (fun hk => by have := hk.2.1; rw [hgn] at this; rw [inR_iff.2 this] at h2'; cases h2')))
        obtain ⟨fp, hO⟩ := ((S.addNil (T := partT) (e := 71)).pathShut (x := [])).head
        exact ⟨_, fp, by rw [hbad], by rw [hbad]; exact pathT.mono _ _ _ _ _ _ X0.size hO, ext_trans X0 B⟩
      intro h2
      have r2 : 0 ≤ e22 ∧ e22 ≤ 8 := inR_iff.1 (by simpa using h2)
      refine t_on rfl rfl ?_
      refine t_move rfl ?_ rfl
      refine t_on rfl rfl ?_
      refine t_add rfl rfl (by omega) ?_ rfl
      refine t_on rfl rfl ?_
      refine t_move rfl ?_ rfl
      refine t_on rfl rfl ?_
      refine t_move rfl ?_ rfl
      refine t_on rfl rfl ?_
      refine t_add rfl rfl (by omega) ?_ rfl
      refine t_on rfl rfl ?_
      refine t_idx e_int (k := (i + 3)) (by assumption) he22 B rfl rfl (by first | rfl | omega) ?_ rfl
      intro p33 hp33
      refine t_on rfl rfl ?_
      refine t_ldi (by assumption) ab_int B rfl ?_ rfl
      refine t_on rfl rfl ?_
      refine t_mul rfl rfl (by omega) ?_ rfl
      refine t_on rfl rfl ?_
      refine t_add rfl rfl (by omega) ?_ rfl
      refine t_on rfl rfl ?_
      refine t_move rfl ?_ rfl
      refine t_on rfl rfl ?_
      refine t_len e_int (by assumption) rfl rfl ?_ rfl
      refine t_on rfl rfl ?_
      refine t_gtr rfl rfl ?_ rfl
      refine t_pickf rfl rfl ?_ rfl
      refine t_done ?_
      refine x_seq ?_
      refine w_if rfl ?_ ?_
      · intro h3
        refine w_seq ?_
        refine w_region ?_
        refine t_build (fun w => b_path0 w) rfl ?_ rfl
        have S := S.f2
        refine t_stn S sb_path rfl rfl rfl rfl (by simp [Value.oneCell']) ?_
        intro w10 b11 S
        have B := B.trans b11
        refine t_assign rfl ?_ rfl
        refine t_done ?_
        refine x_seq ?_
        refine w_ret ?_
        refine x_then_ret ?_
        refine x_block_ret ?_
        refine x_then_ret ?_
        refine x_block_ret ?_
        refine x_then_ret ?_
        refine x_retct rfl rfl S.box ab_path sb_path rfl rfl ?_
        have hbad := pathOf_bad (hp.symm.trans (pfi_bad hlt' (fun hk => by have := hk.2.2; rw [hgn] at this; omega)))
        obtain ⟨fp, hO⟩ := ((S.addNil (T := partT) (e := 71)).pathShut (x := [])).head
        exact ⟨_, fp, by rw [hbad], by rw [hbad]; exact pathT.mono _ _ _ _ _ _ X0.size hO, ext_trans X0 B⟩
      intro h3
      have hok : okAt l i := ⟨by omega, by rw [hgn]; exact r2, by rw [hgn]; omega⟩
      have hst := pfi_step (acc := acc) hlt' hok
      rw [hgn] at hst
      obtain ⟨n, hn⟩ : ∃ n : Nat, e22 = n := ⟨e22.toNat, by omega⟩
      refine w_skip ?_
      refine x_seq ?_
      refine w_seq ?_
      refine w_draw (.st .take 0 (.st .take 1 (.st .take 2 (.st .take 3 (.st .take 4 (.st .take 5 (.st .take 6 (.st .take 7 (.st .take 8 (.st .take 9 (.st .take 10 (.st .take 11 (.st .take 12 (.st .take 13 (.st .take 14 (.st .run 15 (.st .fin 16 .done))))))))))))))))) mixed (by kernel_rfl) ?_
      intro w12 x13
      have B := bx Hb B x13
      have S := S.below x13
      refine t_move rfl ?_ rfl
      refine t_move rfl ?_ rfl
      obtain ⟨e44, he44⟩ : ∃ e, (l)[i]? = some e := getx (by omega)
      refine t_idx e_int (k := i) (by assumption) he44 B rfl rfl (by first | rfl | omega) ?_ rfl
      intro p44 hp44
      refine t_ldi (by assumption) ab_int B rfl ?_ rfl
      refine t_move rfl ?_ rfl
      refine t_move rfl ?_ rfl
      refine t_add rfl rfl (by omega) ?_ rfl
      obtain ⟨e49, he49⟩ : ∃ e, (l)[(i + 1)]? = some e := getx (by omega)
      refine t_idx e_int (k := (i + 1)) (by assumption) he49 B rfl rfl (by first | rfl | omega) ?_ rfl
      intro p49 hp49
      refine t_ldi (by assumption) ab_int B rfl ?_ rfl
      refine t_move rfl ?_ rfl
      refine t_move rfl ?_ rfl
      refine t_add rfl rfl (by omega) ?_ rfl
      obtain ⟨e54, he54⟩ : ∃ e, (l)[(i + 2)]? = some e := getx (by omega)
      refine t_idx e_int (k := (i + 2)) (by assumption) he54 B rfl rfl (by first | rfl | omega) ?_ rfl
      intro p54 hp54
      refine t_ldi (by assumption) ab_int B rfl ?_ rfl
      refine t_build (fun w => b_part3 _ _ _ w) rfl ?_ rfl
      refine t_alloc S z_part rfl ?_ rfl rfl
      intro g6 w14 x15 S
      have B := bx Hb B x15
      refine t_stn S sb_part rfl rfl rfl rfl (by simp [Value.oneCell']) ?_
      intro w16 b17 S
      have B := B.trans b17
      refine t_done' ?_
      refine x_seq ?_
      refine w_seq ?_
      refine w_region ?_
      refine t_move rfl ?_ rfl
      refine t_move rfl ?_ rfl
      refine t_add rfl rfl (by omega) ?_ rfl
      refine t_idx e_int (k := (i + 3)) (by assumption) he22 B rfl rfl (by first | rfl | omega) ?_ rfl
      intro p60 hp60
      refine t_ldi (by assumption) ab_int B rfl ?_ rfl
      refine t_assign rfl ?_ rfl
      refine t_done ?_
      refine x_seq ?_
      refine w_seq ?_
      refine w_region ?_
      refine t_move rfl ?_ rfl
      refine t_add rfl rfl (by omega) ?_ rfl
      refine t_assign rfl ?_ rfl
      refine t_done ?_
      refine x_seq ?_
      refine w_seq ?_
      refine w_seq ?_
      refine w_region ?_
      refine t_assign rfl ?_ rfl
      refine t_done ?_
      refine x_seq ?_
      refine w_block ?_
      refine w_loop (X := Nat × Nat × Value) (fun x wq => (fun k j u => k ≤ n ∧ j = i + 4 + 5 * k ∧ Below w.heap.size w wq ∧ Sep w.heap.size wq [bxO g6 71 #[I e44, I e49, I e54, u], slO hopT 74 u (hopsAt l (i + 4) k), bxO g4 30 #[q], slO partT 71 q acc, bxO g2 30 #[.slice none 0 0]]) x.1 x.2.1 x.2.2) (fun x => (fun k j u => [(8, I ((k : Int))), (5, I ((j : Int))), (0, v), (2, .pointer (some ⟨g2, 0, none⟩)), (4, .pointer (some ⟨g4, 0, none⟩)), (6, .pointer (some ⟨g6, 0, none⟩)), (7, I e22)]) x.1 x.2.1 x.2.2) (fun x => (fun k j u => n - k) x.1 x.2.1 x.2.2) (0, i + 4, .slice none 0 0) ?_ ⟨rfl, rfl, rfl, rfl, rfl, rfl, rfl, trivial⟩ ?_
      · exact ⟨by omega, by show i + 4 = i + 4 + 5 * 0; omega, B, S.addNil.f1⟩
      · rintro ⟨k, j, u⟩ w18 hI
        try dsimp only at hI ⊢
        obtain ⟨hk, hj, B, S⟩ := hI
        have hhl := hopsAt_len l (i + 4) k
        refine w_seq ?_
        refine w_seq ?_
        refine w_region ?_
        refine t_move rfl ?_ rfl
        refine t_move rfl ?_ rfl
        refine t_lss rfl rfl ?_ rfl
        refine t_done ?_
        refine x_seq ?_
        refine w_if rfl ?_ ?_
        · intro hlt2
          refine w_skip ?_
          refine x_seq ?_
          refine w_seq ?_
          refine w_block ?_
          refine w_seq ?_
          refine w_draw (.st .take 0 (.st .take 1 (.st .take 2 (.st .take 3 (.st .take 4 (.st .take 5 (.st .take 6 (.st .take 7 (.st .take 8 (.st .take 9 (.st .take 10 (.st .take 11 (.st .take 12 (.st .take 13 (.st .take 14 (.st .take 15 (.st .take 16 (.st .take 17 (.st .take 18 (.st .take 19 (.st .take 20 (.st .take 21 (.st .take 22 (.st .take 23 (.st .take 24 (.st .take 25 (.st .take 26 (.st .run 27 (.st .fin 28 (.st .fin 29 (.st .fin 30 .done))))))))))))))))))))))))))))))) mixed (by kernel_rfl) ?_
          intro w19 x20
          have B := bx Hb B x20
          have S := S.below x20
          refine t_fldx fb_part_3 rfl rfl ?_ rfl
          refine t_bx1 S.box ab_s_hop rfl rfl ?_ rfl
          refine t_move rfl ?_ rfl
          refine t_move rfl ?_ rfl
          obtain ⟨e73, he73⟩ : ∃ e, (l)[j]? = some e := getx (by omega)
          refine t_idx e_int (k := j) (by assumption) he73 B rfl rfl (by first | rfl | omega) ?_ rfl
          intro p73 hp73
          refine t_ldi (by assumption) ab_int B rfl ?_ rfl
          refine t_move rfl ?_ rfl
          refine t_move rfl ?_ rfl
          refine t_add rfl rfl (by omega) ?_ rfl
          obtain ⟨e78, he78⟩ : ∃ e, (l)[(j + 1)]? = some e := getx (by omega)
          refine t_idx e_int (k := (j + 1)) (by assumption) he78 B rfl rfl (by first | rfl | omega) ?_ rfl
          intro p78 hp78
          refine t_ldi (by assumption) ab_int B rfl ?_ rfl
          refine t_move rfl ?_ rfl
          refine t_move rfl ?_ rfl
          refine t_add rfl rfl (by omega) ?_ rfl
          obtain ⟨e83, he83⟩ : ∃ e, (l)[(j + 2)]? = some e := getx (by omega)
          refine t_idx e_int (k := (j + 2)) (by assumption) he83 B rfl rfl (by first | rfl | omega) ?_ rfl
          intro p83 hp83
          refine t_ldi (by assumption) ab_int B rfl ?_ rfl
          refine t_move rfl ?_ rfl
          refine t_move rfl ?_ rfl
          refine t_add rfl rfl (by omega) ?_ rfl
          obtain ⟨e88, he88⟩ : ∃ e, (l)[(j + 3)]? = some e := getx (by omega)
          refine t_idx e_int (k := (j + 3)) (by assumption) he88 B rfl rfl (by first | rfl | omega) ?_ rfl
          intro p88 hp88
          refine t_ldi (by assumption) ab_int B rfl ?_ rfl
          refine t_move rfl ?_ rfl
          refine t_move rfl ?_ rfl
          refine t_add rfl rfl (by omega) ?_ rfl
          obtain ⟨e93, he93⟩ : ∃ e, (l)[(j + 4)]? = some e := getx (by omega)
          refine t_idx e_int (k := (j + 4)) (by assumption) he93 B rfl rfl (by first | rfl | omega) ?_ rfl
          intro p93 hp93
          refine t_ldi (by assumption) ab_int B rfl ?_ rfl
          refine t_build (fun w => b_hop _ _ _ _ _ w) rfl ?_ rfl
          refine t_lit (T := hopT) (l := [(⟨e73, e78, e83, e88, e93⟩ : Hop)]) (css := [[I e73, I e78, I e83, I e88, I e93]]) hop_flat S (fun w => bs_hop1 _ _ _ _ _ w) rfl rfl rfl rfl (by simp [maxLen]) (litR_one fun _ => rfl) ?_ rfl rfl
          intro u96 w21 x22 S
          have B := bx Hb B x22
          have hR := S.sl
          have S := S.f2
          refine t_cat hop_flat e_hop S hR rfl rfl rfl (by first | omega | (simp [-List.length_flatMap]; omega)) (by (simp [maxLen, -List.length_flatMap]; try omega)) ?_ rfl
          intro v97 w23 x24 S
          have B := B.trans x24
          clear hR
          have S := S.f1
          have S := S.tail
          refine t_fldx fb_part_3 rfl rfl ?_ rfl
          obtain ⟨Av97, cv97, rfl, _⟩ := S.sl.form
          have S := S.f1
          refine t_st1 S sb_s_hop rfl rfl rfl rfl rfl ?_
          intro w25 b26 S
          have B := B.trans b26
          refine t_done' ?_
          refine x_seq ?_
          refine w_region ?_
          refine t_move rfl ?_ rfl
          refine t_add rfl rfl (by omega) ?_ rfl
          refine t_assign rfl ?_ rfl
          refine t_done ?_
          refine x_block_normal ?_
          refine x_seq ?_
          refine w_region ?_
          refine t_move rfl ?_ rfl
          refine t_add rfl rfl (by omega) ?_ rfl
          refine t_assign rfl ?_ rfl
          refine t_done ?_
          refine x_round (X := Nat × Nat × Value) (I := (fun x wq => (fun k j u => k ≤ n ∧ j = i + 4 + 5 * k ∧ Below w.heap.size w wq ∧ Sep w.heap.size wq [bxO g6 71 #[I e44, I e49, I e54, u], slO hopT 74 u (hopsAt l (i + 4) k), bxO g4 30 #[q], slO partT 71 q acc, bxO g2 30 #[.slice none 0 0]]) x.1 x.2.1 x.2.2)) (F := (fun x => (fun k j u => [(8, I ((k : Int))), (5, I ((j : Int))), (0, v), (2, .pointer (some ⟨g2, 0, none⟩)), (4, .pointer (some ⟨g4, 0, none⟩)), (6, .pointer (some ⟨g6, 0, none⟩)), (7, I e22)]) x.1 x.2.1 x.2.2)) (μ := (fun x => (fun k j u => n - k) x.1 x.2.1 x.2.2)) (k + 1, j + 5, .slice Av97 (((hopsAt l (i + 4) k)) ++ ([(⟨e73, e78, e83, e88, e93⟩ : Hop)])).length cv97) ?_ (by exact ⟨rfl, rfl, rfl, rfl, rfl, rfl, rfl, trivial⟩) (by (try dsimp only); omega)
          try dsimp only
          refine ⟨by omega, by omega, B, ?_⟩
          have hh : hopAt l (i + 4 + 5 * k) = ⟨e73, e78, e83, e88, e93⟩ := by
            rw [← hj, hopAt, gI_eq he73, gI_eq he78, gI_eq he83, gI_eq he88, gI_eq he93]
          rw [hopsAt_succ, hh]
          exact S
        · intro hge2
          have : k = n := by omega
          subst this
          have hal : List.length acc ≤ sz_path acc := by show List.length acc ≤ List.length acc + _; omega
          have hpA : partAt l i = ⟨e44, e49, e54, hopsAt l (i + 4) k⟩ := by
            rw [partAt, gI_eq he44, gI_eq he49, gI_eq he54, hgn, hn]; rfl
          refine w_exit ?_
          refine x_then_exit ?_
          refine x_then_exit ?_
          refine x_block_exit ?_
          refine x_seq ?_
          refine w_region ?_
          refine t_fldx fb_path_0 rfl rfl ?_ rfl
          refine t_bx1 S.tail.tail.box ab_s_part rfl rfl ?_ rfl
          refine t_bxn S.box ab_part sb_part rfl rfl ?_ rfl
          refine t_lit1 (fun w => bs_part1 _ _ _ _ w) rfl ?_ rfl rfl
          intro A104 w27 x28 hA104
          have B := bx Hb B x28
          have S := S.below x28
          have S := S.f1
          have S := S.partShut (x := (⟨e44, e49, e54, (hopsAt l (i + 4) k)⟩ : Part))
          have S := S.f3
          refine t_snoc e_part S hA104 rfl rfl rfl (by first | omega | (simp; done) | (simp; omega)) (by (simp only [maxLen]); first | omega | (simp; done) | (simp; omega)) ?_ rfl
          intro v105 w29 x30 S
          have B := B.trans x30
          refine t_fldx fb_path_0 rfl rfl ?_ rfl
          obtain ⟨Av105, cv105, rfl, _⟩ := S.sl.form
          have S := S.f2
          refine t_st1 S sb_s_part rfl rfl rfl rfl rfl ?_
          intro w31 b32 S
          have B := B.trans b32
          refine t_done ?_
          refine x_block_normal ?_
          have S := S.f2
          have S := S.tail
          refine x_round (X := Nat × Path × Value) (I := (fun x wq => (fun i acc q => i ≤ l.length ∧ pfi l i acc = pfi l 0 [] ∧ sz_path acc ≤ i ∧ rng_path acc ∧ Below w.heap.size w wq ∧ Sep w.heap.size wq [bxO g4 30 #[q], slO partT 71 q acc, bxO g2 30 #[.slice none 0 0]]) x.1 x.2.1 x.2.2)) (F := (fun x => (fun i acc q => [(5, I ((i : Int))), (0, v), (2, .pointer (some ⟨g2, 0, none⟩)), (4, .pointer (some ⟨g4, 0, none⟩))]) x.1 x.2.1 x.2.2)) (μ := (fun x => (fun i acc q => l.length - i) x.1 x.2.1 x.2.2)) (j, acc ++ [⟨e44, e49, e54, hopsAt l (i + 4) k⟩], .slice Av105 (acc ++ [(⟨e44, e49, e54, (hopsAt l (i + 4) k)⟩ : Part)]).length cv105) ?_ (by exact ⟨rfl, rfl, rfl, rfl, trivial⟩) (by (try dsimp only); omega)
          try dsimp only
          have hj2 : i + 4 + 5 * e22.toNat = j := by omega
          rw [hpA, hj2] at hst
          refine ⟨by omega, by rw [← hst]; exact hp, by rw [sz_snoc]; show sz_path acc + 1 + (hopsAt l (i + 4) k).length ≤ j; omega, ?_, B, S⟩
          intro x hx
          rcases List.mem_append.1 hx with hx | hx
          · exact hrg x hx
          · rw [List.mem_singleton] at hx
            rw [hx, ← hpA]
            exact partAt_rng hg i
    · intro hge
      have hend := hp.symm.trans (pfi_done (by omega))
      have hok2 := lenOk_sz (p := acc) (by omega)
      refine w_exit ?_
      refine x_then_exit ?_
      refine x_then_exit ?_
      refine x_block_exit ?_
      refine x_seq ?_
      refine w_seq ?_
      refine w_seq ?_
      refine w_region ?_
      refine t_bxn S.box ab_path sb_path rfl rfl ?_ rfl
      refine t_callx Try.call50 rfl (va1 (path_mkv (S.tail.sl)) fun cs h => impl_EncodablePath _ cs _ h (by omega) (by assumption) (by assumption)) ?_ rfl rfl
      intro w33 x34
      have B := bx Hb B x34
      have S := S.below x34
      refine t_notb rfl ?_ rfl
      refine t_done ?_
      refine x_seq ?_
      refine w_ifb rfl ?_ ?_
      · intro h4
        refine w_seq ?_
        refine w_region ?_
        refine t_build (fun w => b_path0 w) rfl ?_ rfl
        have S := S.f2
        refine t_stn S sb_path rfl rfl rfl rfl (by simp [Value.oneCell']) ?_
        intro w35 b36 S
        have B := B.trans b36
        refine t_assign rfl ?_ rfl
        refine t_done ?_
        refine x_seq ?_
        refine w_ret ?_
        refine x_then_ret ?_
        refine x_retct rfl rfl S.box ab_path sb_path rfl rfl ?_
        have hbad := pathOf_no hend (by simpa using h4)
        obtain ⟨fp, hO⟩ := ((S.addNil (T := partT) (e := 71)).pathShut (x := [])).head
        exact ⟨_, fp, by rw [hbad], by rw [hbad]; exact pathT.mono _ _ _ _ _ _ X0.size hO, ext_trans X0 B⟩
      · intro h4
        refine w_skip ?_
        refine x_seq ?_
        refine w_seq ?_
        refine w_region ?_
        refine t_bxn S.box ab_path sb_path rfl rfl ?_ rfl
        have S := S.f2
        refine t_stn S sb_path rfl rfl rfl rfl (by intro zz hu; have hu : zz ∈ ([q] : List Value) := hu; simp only [List.mem_cons, List.not_mem_nil, or_false] at hu; rcases hu with rfl <;> first | rfl | exact (SlR.cells (by first | assumption | exact S.tail.sl | exact S.tail.tail.sl | exact S.tail.tail.tail.sl | exact S.tail.tail.tail.tail.sl | exact S.tail.tail.tail.tail.tail.sl | exact S.tail.tail.tail.tail.tail.tail.sl | exact S.tail.tail.tail.tail.tail.tail.tail.sl | exact S.tail.tail.tail.tail.tail.tail.tail.tail.sl)).2) ?_
        intro w37 b38 S
        have B := B.trans b38
        refine t_assign rfl ?_ rfl
        refine t_done ?_
        refine x_seq ?_
        refine w_ret ?_
        refine x_retct rfl rfl S.box ab_path sb_path rfl rfl ?_
        have hyes := pathOf_yes hend (by simpa using h4)
        obtain ⟨fp, hO⟩ := (S.f2.pathShut).head
        exact ⟨_, fp, by rw [hyes], by rw [hyes]; exact pathT.mono _ _ _ _ _ _ X0.size hO, ext_trans X0 B⟩
theorem spec_PathFromInts (l : List Int) (v : Value) (w : World) (h : SlR intT w v l) (hz : l.length ≤ 1048576) (hg : ∀ x ∈ l, In64 x) : Calls Try.prog 39 #[v] w fun e w' => ∃ cs fp, e = .returned (.tuple #[.agg cs.toArray, .bool (pathOf l).2]) ∧ pathT.O w.heap.size w' cs (pathOf l).1 fp ∧ Below w.heap.size w w' := by
  have X0 := Below.refl w.heap.size w
  refine enter Try.func39 rfl Try.ntmps39 rfl ?_
  refine w_seq ?_
  refine w_region ?_
  have S := Sep.nil w
  have B := Below.refl w.heap.size w
  have Hb := Nat.le_refl w.heap.size
  refine t_alloc S z_path rfl ?_ rfl rfl
  intro g2 w39 x40 S
  have B := bx Hb B x40
  refine t_assign rfl ?_ rfl
  refine t_done ?_
  refine x_seq ?_
  refine w_seq ?_
  refine w_region ?_
  refine t_build (fun w => b_path0 w) rfl ?_ rfl
  refine t_alloc S z_path rfl ?_ rfl rfl
  intro g4 w41 x42 S
  have B := bx Hb B x42
  refine t_stn S sb_path rfl rfl rfl rfl (by simp [Value.oneCell']) ?_
  intro w43 b44 S
  have B := B.trans b44
  refine t_done ?_
  refine x_seq ?_
  refine w_seq ?_
  refine w_region ?_
  refine t_assign rfl ?_ rfl
  refine t_done ?_
  refine x_seq ?_
  refine w_seq ?_
  refine w_block ?_
  refine w_loop (X := Nat × Path × Value) (fun x wq => (fun i acc q => i ≤ l.length ∧ pfi l i acc = pfi l 0 [] ∧ sz_path acc ≤ i ∧ rng_path acc ∧ Below w.heap.size w wq ∧ Sep w.heap.size wq [bxO g4 30 #[q], slO partT 71 q acc, bxO g2 30 #[.slice none 0 0]]) x.1 x.2.1 x.2.2) (fun x => (fun i acc q => [(5, I ((i : Int))), (0, v), (2, .pointer (some ⟨g2, 0, none⟩)), (4, .pointer (some ⟨g4, 0, none⟩))]) x.1 x.2.1 x.2.2) (fun x => (fun i acc q => l.length - i) x.1 x.2.1 x.2.2) (0, [], .slice none 0 0) ?_ ⟨rfl, rfl, rfl, rfl, trivial⟩ ?_
  · exact ⟨by omega, rfl, Nat.le_refl _, (fun x hx => by cases hx), B, S.addNil.f1⟩
  · rintro ⟨i, acc, q⟩ w45 hI
    try dsimp only at hI ⊢
    obtain ⟨hi, hp, hsz, hrg, B, S⟩ := hI
    refine w_seq ?_
    refine w_seq ?_
    refine w_region ?_
    refine t_move rfl ?_ rfl
    refine t_move rfl ?_ rfl
    refine t_len e_int (by assumption) rfl rfl ?_ rfl
    refine t_lss rfl rfl ?_ rfl
    refine t_done ?_
    refine x_seq ?_
    refine w_if rfl ?_ ?_
    · intro hlt
      have hlt' : i < l.length := by omega
      refine w_skip ?_
      refine x_seq ?_
      refine w_block ?_
      refine w_seq ?_
      refine w_seq ?_
      refine w_region ?_
      refine t_move rfl ?_ rfl
      refine t_len e_int (by assumption) rfl rfl ?_ rfl
      refine t_move rfl ?_ rfl
      refine t_sub rfl rfl (by omega) ?_ rfl
      refine t_lss rfl rfl ?_ rfl
      refine t_move rfl ?_ rfl
      refine t_partp (t := 19) rfl ?_ ?_
      · intro h1
        refine t_off rfl rfl rfl ?_ rfl
        refine t_off rfl rfl rfl ?_ rfl
        refine t_off rfl rfl rfl ?_ rfl
        refine t_off rfl rfl rfl ?_ rfl
        refine t_off rfl rfl rfl ?_ rfl
        refine t_off rfl rfl rfl ?_ rfl
        refine t_off rfl rfl rfl ?_ rfl
        refine t_pickt rfl rfl ?_ rfl
        refine t_move rfl ?_ rfl
        refine t_off rfl rfl rfl ?_ rfl
        refine t_off rfl rfl rfl ?_ rfl
        refine t_off rfl rfl rfl ?_ rfl
        refine t_off rfl rfl rfl ?_ rfl
        refine t_off rfl rfl rfl ?_ rfl
        refine t_off rfl rfl rfl ?_ rfl
        refine t_off rfl rfl rfl ?_ rfl
        refine t_off rfl rfl rfl ?_ rfl
        refine t_off rfl rfl rfl ?_ rfl
        refine t_off rfl rfl rfl ?_ rfl
        refine t_off rfl rfl rfl ?_ rfl
        refine t_off rfl rfl rfl ?_ rfl
        refine t_pickt rfl rfl ?_ rfl
        refine t_done ?_
        refine x_seq ?_
        refine w_yes rfl ?_
        refine w_seq ?_
        refine w_region ?_
        refine t_build (fun w => b_path0 w) rfl ?_ rfl
        have S := S.f2
        refine t_stn S sb_path rfl rfl rfl rfl (by simp [Value.oneCell']) ?_
        intro w46 b47 S
        have B := B.trans b47
        refine t_assign rfl ?_ rfl
        refine t_done ?_
        refine x_seq ?_
        refine w_ret ?_
        refine x_then_ret ?_
        refine x_block_ret ?_
        refine x_then_ret ?_
        refine x_block_ret ?_
        refine x_then_ret ?_
        refine x_retct rfl rfl S.box ab_path sb_path rfl rfl ?_
        have hbad := pathOf_bad (hp.symm.trans (pfi_bad hlt' (fun hk => by have := hk.1; omega)))
        obtain ⟨fp, hO⟩ := ((S.addNil (T := partT) (e := 71)).pathShut (x := [])).head
        exact ⟨_, fp, by rw [hbad], by rw [hbad]; exact pathT.mono _ _ _ _ _ _ X0.size hO, ext_trans X0 B⟩
      intro h1
      refine t_on rfl rfl ?_
      refine t_move rfl ?_ rfl
      refine t_on rfl rfl ?_
      refine t_move rfl ?_ rfl
      refine t_on rfl rfl ?_
      refine t_add rfl rfl (by omega) ?_ rfl
      refine t_on rfl rfl ?_
      obtain ⟨e23, he23⟩ : ∃ e, (l)[(i + 3)]? = some e := getx (by omega)
      refine t_idx e_int (k := (i + 3)) (by assumption) he23 B rfl rfl (by first | rfl | omega) ?_ rfl
      intro p23 hp23
      refine t_on rfl rfl ?_
      refine t_ldi (by assumption) ab_int B rfl ?_ rfl
      refine t_on rfl rfl ?_
      refine t_calls Try.call54 rfl (spec_l1In _ _ _ _) ?_ rfl rfl
      refine t_on rfl rfl ?_
      refine t_notb rfl ?_ rfl
      refine t_pickf rfl rfl ?_ rfl
      refine t_move rfl ?_ rfl
      have hgn := gI_eq he23
      refine t_part (t := 28) rfl ?_ ?_
      · intro h2
        refine t_off rfl rfl rfl ?_ rfl
        refine t_off rfl rfl rfl ?_ rfl
        refine t_off rfl rfl rfl ?_ rfl
        refine t_off rfl rfl rfl ?_ rfl
        refine t_off rfl rfl rfl ?_ rfl
        refine t_off rfl rfl rfl ?_ rfl
        refine t_off rfl rfl rfl ?_ rfl
        refine t_off rfl rfl rfl ?_ rfl
        refine t_off rfl rfl rfl ?_ rfl
        refine t_off rfl rfl rfl ?_ rfl
        refine t_off rfl rfl rfl ?_ rfl
        refine t_off rfl rfl rfl ?_ rfl
        refine t_pickt rfl rfl ?_ rfl
        refine t_done ?_
        refine x_seq ?_
        refine w_yes rfl ?_
        refine w_seq ?_
        refine w_region ?_
        refine t_build (fun w => b_path0 w) rfl ?_ rfl
        have S := S.f2
        refine t_stn S sb_path rfl rfl rfl rfl (by simp [Value.oneCell']) ?_
        intro w48 b49 S
        have B := B.trans b49
        refine t_assign rfl ?_ rfl
        refine t_done ?_
        refine x_seq ?_
        refine w_ret ?_
        refine x_then_ret ?_
        refine x_block_ret ?_
        refine x_then_ret ?_
        refine x_block_ret ?_
        refine x_then_ret ?_
        refine x_retct rfl rfl S.box ab_path sb_path rfl rfl ?_
        have h2' : inR e23 0 8 = false := by simpa using h2
        have hbad := pathOf_bad (hp.symm.trans (pfi_bad hlt' (fun hk => by have := hk.2.1; rw [hgn] at this; rw [inR_iff.2 this] at h2'; cases h2')))
        obtain ⟨fp, hO⟩ := ((S.addNil (T := partT) (e := 71)).pathShut (x := [])).head
        exact ⟨_, fp, by rw [hbad], by rw [hbad]; exact pathT.mono _ _ _ _ _ _ X0.size hO, ext_trans X0 B⟩
      intro h2
      have r2 : 0 ≤ e23 ∧ e23 ≤ 8 := inR_iff.1 (by simpa using h2)
      refine t_on rfl rfl ?_
      refine t_move rfl ?_ rfl
      refine t_on rfl rfl ?_
      refine t_len e_int (by assumption) rfl rfl ?_ rfl
      refine t_on rfl rfl ?_
      refine t_move rfl ?_ rfl
      refine t_on rfl rfl ?_
      refine t_sub rfl rfl (by omega) ?_ rfl
      refine t_on rfl rfl ?_
      refine t_sub rfl rfl (by omega) ?_ rfl
      refine t_on rfl rfl ?_
      refine t_move rfl ?_ rfl
      refine t_on rfl rfl ?_
      refine t_move rfl ?_ rfl
      refine t_on rfl rfl ?_
      refine t_add rfl rfl (by omega) ?_ rfl
      refine t_on rfl rfl ?_
      refine t_idx e_int (k := (i + 3)) (by assumption) he23 B rfl rfl (by first | rfl | omega) ?_ rfl
      intro p37 hp37
      refine t_on rfl rfl ?_
      refine t_ldi (by assumption) ab_int B rfl ?_ rfl
      refine t_on rfl rfl ?_
      refine t_mul rfl rfl (by omega) ?_ rfl
      refine t_on rfl rfl ?_
      refine t_lss rfl rfl ?_ rfl
      refine t_pickf rfl rfl ?_ rfl
      refine t_done ?_
      refine x_seq ?_
      refine w_if rfl ?_ ?_
      · intro h3
        refine w_seq ?_
        refine w_region ?_
        refine t_build (fun w => b_path0 w) rfl ?_ rfl
        have S := S.f2
        refine t_stn S sb_path rfl rfl rfl rfl (by simp [Value.oneCell']) ?_
        intro w50 b51 S
        have B := B.trans b51
        refine t_assign rfl ?_ rfl
        refine t_done ?_
        refine x_seq ?_
        refine w_ret ?_
        refine x_then_ret ?_
        refine x_block_ret ?_
        refine x_then_ret ?_
        refine x_block_ret ?_
        refine x_then_ret ?_
        refine x_retct rfl rfl S.box ab_path sb_path rfl rfl ?_
        have hbad := pathOf_bad (hp.symm.trans (pfi_bad hlt' (fun hk => by have := hk.2.2; rw [hgn] at this; omega)))
        obtain ⟨fp, hO⟩ := ((S.addNil (T := partT) (e := 71)).pathShut (x := [])).head
        exact ⟨_, fp, by rw [hbad], by rw [hbad]; exact pathT.mono _ _ _ _ _ _ X0.size hO, ext_trans X0 B⟩
      intro h3
      have hok : okAt l i := ⟨by omega, by rw [hgn]; exact r2, by rw [hgn]; omega⟩
      have hst := pfi_step (acc := acc) hlt' hok
      rw [hgn] at hst
      obtain ⟨n, hn⟩ : ∃ n : Nat, e23 = n := ⟨e23.toNat, by omega⟩
      refine w_skip ?_
      refine x_seq ?_
      refine w_seq ?_
      refine w_draw (.st .take 0 (.st .take 1 (.st .take 2 (.st .take 3 (.st .take 4 (.st .take 5 (.st .take 6 (.st .take 7 (.st .take 8 (.st .take 9 (.st .take 10 (.st .take 11 (.st .take 12 (.st .take 13 (.st .take 14 (.st .run 15 (.st .fin 16 .done))))))))))))))))) mixed (by kernel_rfl) ?_
      intro w52 x53
      have B := bx Hb B x53
      have S := S.below x53
      refine t_move rfl ?_ rfl
      refine t_move rfl ?_ rfl
      obtain ⟨e45, he45⟩ : ∃ e, (l)[i]? = some e := getx (by omega)
      refine t_idx e_int (k := i) (by assumption) he45 B rfl rfl (by first | rfl | omega) ?_ rfl
      intro p45 hp45
      refine t_ldi (by assumption) ab_int B rfl ?_ rfl
      refine t_move rfl ?_ rfl
      refine t_move rfl ?_ rfl
      refine t_add rfl rfl (by omega) ?_ rfl
      obtain ⟨e50, he50⟩ : ∃ e, (l)[(i + 1)]? = some e := getx (by omega)
      refine t_idx e_int (k := (i + 1)) (by assumption) he50 B rfl rfl (by first | rfl | omega) ?_ rfl
      intro p50 hp50
      refine t_ldi (by assumption) ab_int B rfl ?_ rfl
      refine t_move rfl ?_ rfl
      refine t_move rfl ?_ rfl
      refine t_add rfl rfl (by omega) ?_ rfl
      obtain ⟨e55, he55⟩ : ∃ e, (l)[(i + 2)]? = some e := getx (by omega)
      refine t_idx e_int (k := (i + 2)) (by assumption) he55 B rfl rfl (by first | rfl | omega) ?_ rfl
      intro p55 hp55
      refine t_ldi (by assumption) ab_int B rfl ?_ rfl
      refine t_build (fun w => b_part3 _ _ _ w) rfl ?_ rfl
      refine t_alloc S z_part rfl ?_ rfl rfl
      intro g6 w54 x55 S
      have B := bx Hb B x55
      refine t_stn S sb_part rfl rfl rfl rfl (by simp [Value.oneCell']) ?_
      intro w56 b57 S
      have B := B.trans b57
      refine t_done' ?_
      refine x_seq ?_
      refine w_seq ?_
      refine w_region ?_
      refine t_move rfl ?_ rfl
      refine t_move rfl ?_ rfl
      refine t_add rfl rfl (by omega) ?_ rfl
      refine t_idx e_int (k := (i + 3)) (by assumption) he23 B rfl rfl (by first | rfl | omega) ?_ rfl
      intro p61 hp61
      refine t_ldi (by assumption) ab_int B rfl ?_ rfl
      refine t_assign rfl ?_ rfl
      refine t_done ?_
      refine x_seq ?_
      refine w_seq ?_
      refine w_region ?_
      refine t_move rfl ?_ rfl
      refine t_add rfl rfl (by omega) ?_ rfl
      refine t_assign rfl ?_ rfl
      refine t_done ?_
      refine x_seq ?_
      refine w_seq ?_
      refine w_seq ?_
      refine w_region ?_
      refine t_assign rfl ?_ rfl
      refine t_done ?_
      refine x_seq ?_
      refine w_block ?_
      refine w_loop (X := Nat × Nat × Value) (fun x wq => (fun k j u => k ≤ n ∧ j = i + 4 + 5 * k ∧ Below w.heap.size w wq ∧ Sep w.heap.size wq [bxO g6 71 #[I e45, I e50, I e55, u], slO hopT 74 u (hopsAt l (i + 4) k), bxO g4 30 #[q], slO partT 71 q acc, bxO g2 30 #[.slice none 0 0]]) x.1 x.2.1 x.2.2) (fun x => (fun k j u => [(8, I ((k : Int))), (5, I ((j : Int))), (0, v), (2, .pointer (some ⟨g2, 0, none⟩)), (4, .pointer (some ⟨g4, 0, none⟩)), (6, .pointer (some ⟨g6, 0, none⟩)), (7, I e23)]) x.1 x.2.1 x.2.2) (fun x => (fun k j u => n - k) x.1 x.2.1 x.2.2) (0, i + 4, .slice none 0 0) ?_ ⟨rfl, rfl, rfl, rfl, rfl, rfl, rfl, trivial⟩ ?_
      · exact ⟨by omega, by show i + 4 = i + 4 + 5 * 0; omega, B, S.addNil.f1⟩
      · rintro ⟨k, j, u⟩ w58 hI
        try dsimp only at hI ⊢
        obtain ⟨hk, hj, B, S⟩ := hI
        have hhl := hopsAt_len l (i + 4) k
        refine w_seq ?_
        refine w_seq ?_
        refine w_region ?_
        refine t_move rfl ?_ rfl
        refine t_move rfl ?_ rfl
        refine t_lss rfl rfl ?_ rfl
        refine t_done ?_
        refine x_seq ?_
        refine w_if rfl ?_ ?_
        · intro hlt2
          refine w_skip ?_
          refine x_seq ?_
          refine w_seq ?_
          refine w_block ?_
          refine w_seq ?_
          refine w_draw (.st .take 0 (.st .take 1 (.st .take 2 (.st .take 3 (.st .take 4 (.st .take 5 (.st .take 6 (.st .take 7 (.st .take 8 (.st .take 9 (.st .take 10 (.st .take 11 (.st .take 12 (.st .take 13 (.st .take 14 (.st .take 15 (.st .take 16 (.st .take 17 (.st .take 18 (.st .take 19 (.st .take 20 (.st .take 21 (.st .take 22 (.st .take 23 (.st .take 24 (.st .take 25 (.st .take 26 (.st .run 27 (.st .fin 28 (.st .fin 29 (.st .fin 30 .done))))))))))))))))))))))))))))))) mixed (by kernel_rfl) ?_
          intro w59 x60
          have B := bx Hb B x60
          have S := S.below x60
          refine t_fldx fb_part_3 rfl rfl ?_ rfl
          refine t_bx1 S.box ab_s_hop rfl rfl ?_ rfl
          refine t_move rfl ?_ rfl
          refine t_move rfl ?_ rfl
          obtain ⟨e74, he74⟩ : ∃ e, (l)[j]? = some e := getx (by omega)
          refine t_idx e_int (k := j) (by assumption) he74 B rfl rfl (by first | rfl | omega) ?_ rfl
          intro p74 hp74
          refine t_ldi (by assumption) ab_int B rfl ?_ rfl
          refine t_move rfl ?_ rfl
          refine t_move rfl ?_ rfl
          refine t_add rfl rfl (by omega) ?_ rfl
          obtain ⟨e79, he79⟩ : ∃ e, (l)[(j + 1)]? = some e := getx (by omega)
          refine t_idx e_int (k := (j + 1)) (by assumption) he79 B rfl rfl (by first | rfl | omega) ?_ rfl
          intro p79 hp79
          refine t_ldi (by assumption) ab_int B rfl ?_ rfl
          refine t_move rfl ?_ rfl
          refine t_move rfl ?_ rfl
          refine t_add rfl rfl (by omega) ?_ rfl
          obtain ⟨e84, he84⟩ : ∃ e, (l)[(j + 2)]? = some e := getx (by omega)
          refine t_idx e_int (k := (j + 2)) (by assumption) he84 B rfl rfl (by first | rfl | omega) ?_ rfl
          intro p84 hp84
          refine t_ldi (by assumption) ab_int B rfl ?_ rfl
          refine t_move rfl ?_ rfl
          refine t_move rfl ?_ rfl
          refine t_add rfl rfl (by omega) ?_ rfl
          obtain ⟨e89, he89⟩ : ∃ e, (l)[(j + 3)]? = some e := getx (by omega)
          refine t_idx e_int (k := (j + 3)) (by assumption) he89 B rfl rfl (by first | rfl | omega) ?_ rfl
          intro p89 hp89
          refine t_ldi (by assumption) ab_int B rfl ?_ rfl
          refine t_move rfl ?_ rfl
          refine t_move rfl ?_ rfl
          refine t_add rfl rfl (by omega) ?_ rfl
          obtain ⟨e94, he94⟩ : ∃ e, (l)[(j + 4)]? = some e := getx (by omega)
          refine t_idx e_int (k := (j + 4)) (by assumption) he94 B rfl rfl (by first | rfl | omega) ?_ rfl
          intro p94 hp94
          refine t_ldi (by assumption) ab_int B rfl ?_ rfl
          refine t_build (fun w => b_hop _ _ _ _ _ w) rfl ?_ rfl
          refine t_lit (T := hopT) (l := [(⟨e74, e79, e84, e89, e94⟩ : Hop)]) (css := [[I e74, I e79, I e84, I e89, I e94]]) hop_flat S (fun w => bs_hop1 _ _ _ _ _ w) rfl rfl rfl rfl (by simp [maxLen]) (litR_one fun _ => rfl) ?_ rfl rfl
          intro u97 w61 x62 S
          have B := bx Hb B x62
          have hR := S.sl
          have S := S.f2
          refine t_cat hop_flat e_hop S hR rfl rfl rfl (by first | omega | (simp [-List.length_flatMap]; omega)) (by (simp [maxLen, -List.length_flatMap]; try omega)) ?_ rfl
          intro v98 w63 x64 S
          have B := B.trans x64
          clear hR
          have S := S.f1
          have S := S.tail
          refine t_fldx fb_part_3 rfl rfl ?_ rfl
          obtain ⟨Av98, cv98, rfl, _⟩ := S.sl.form
          have S := S.f1
          refine t_st1 S sb_s_hop rfl rfl rfl rfl rfl ?_
          intro w65 b66 S
          have B := B.trans b66
          refine t_done' ?_
          refine x_seq ?_
          refine w_region ?_
          refine t_move rfl ?_ rfl
          refine t_add rfl rfl (by omega) ?_ rfl
          refine t_assign rfl ?_ rfl
          refine t_done ?_
          refine x_block_normal ?_
          refine x_seq ?_
          refine w_region ?_
          refine t_move rfl ?_ rfl
          refine t_add rfl rfl (by omega) ?_ rfl
          refine t_assign rfl ?_ rfl
          refine t_done ?_
          refine x_round (X := Nat × Nat × Value) (I := (fun x wq => (fun k j u => k ≤ n ∧ j = i + 4 + 5 * k ∧ Below w.heap.size w wq ∧ Sep w.heap.size wq [bxO g6 71 #[I e45, I e50, I e55, u], slO hopT 74 u (hopsAt l (i + 4) k), bxO g4 30 #[q], slO partT 71 q acc, bxO g2 30 #[.slice none 0 0]]) x.1 x.2.1 x.2.2)) (F := (fun x => (fun k j u => [(8, I ((k : Int))), (5, I ((j : Int))), (0, v), (2, .pointer (some ⟨g2, 0, none⟩)), (4, .pointer (some ⟨g4, 0, none⟩)), (6, .pointer (some ⟨g6, 0, none⟩)), (7, I e23)]) x.1 x.2.1 x.2.2)) (μ := (fun x => (fun k j u => n - k) x.1 x.2.1 x.2.2)) (k + 1, j + 5, .slice Av98 (((hopsAt l (i + 4) k)) ++ ([(⟨e74, e79, e84, e89, e94⟩ : Hop)])).length cv98) ?_ (by exact ⟨rfl, rfl, rfl, rfl, rfl, rfl, rfl, trivial⟩) (by (try dsimp only); omega)
          try dsimp only
          refine ⟨by omega, by omega, B, ?_⟩
          have hh : hopAt l (i + 4 + 5 * k) = ⟨e74, e79, e84, e89, e94⟩ := by
            rw [← hj, hopAt, gI_eq he74, gI_eq he79, gI_eq he84, gI_eq he89, gI_eq he94]
          rw [hopsAt_succ, hh]
          exact S
        · intro hge2
          have : k = n := by omega
          subst this
          have hal : List.length acc ≤ sz_path acc := by show List.length acc ≤ List.length acc + _; omega
          have hpA : partAt l i = ⟨e45, e50, e55, hopsAt l (i + 4) k⟩ := by
            rw [partAt, gI_eq he45, gI_eq he50, gI_eq he55, hgn, hn]; rfl
          refine w_exit ?_
          refine x_then_exit ?_
          refine x_then_exit ?_
          refine x_block_exit ?_
          refine x_seq ?_
          refine w_region ?_
          refine t_fldx fb_path_0 rfl rfl ?_ rfl
          refine t_bx1 S.tail.tail.box ab_s_part rfl rfl ?_ rfl
          refine t_bxn S.box ab_part sb_part rfl rfl ?_ rfl
          refine t_lit1 (fun w => bs_part1 _ _ _ _ w) rfl ?_ rfl rfl
          intro A105 w67 x68 hA105
          have B := bx Hb B x68
          have S := S.below x68
          have S := S.f1
          have S := S.partShut (x := (⟨e45, e50, e55, (hopsAt l (i + 4) k)⟩ : Part))
          have S := S.f3
          refine t_snoc e_part S hA105 rfl rfl rfl (by first | omega | (simp; done) | (simp; omega)) (by (simp only [maxLen]); first | omega | (simp; done) | (simp; omega)) ?_ rfl
          intro v106 w69 x70 S
          have B := B.trans x70
          refine t_fldx fb_path_0 rfl rfl ?_ rfl
          obtain ⟨Av106, cv106, rfl, _⟩ := S.sl.form
          have S := S.f2
          refine t_st1 S sb_s_part rfl rfl rfl rfl rfl ?_
          intro w71 b72 S
          have B := B.trans b72
          refine t_done ?_
          refine x_block_normal ?_
          have S := S.f2
          have S := S.tail
          refine x_round (X := Nat × Path × Value) (I := (fun x wq => (fun i acc q => i ≤ l.length ∧ pfi l i acc = pfi l 0 [] ∧ sz_path acc ≤ i ∧ rng_path acc ∧ Below w.heap.size w wq ∧ Sep w.heap.size wq [bxO g4 30 #[q], slO partT 71 q acc, bxO g2 30 #[.slice none 0 0]]) x.1 x.2.1 x.2.2)) (F := (fun x => (fun i acc q => [(5, I ((i : Int))), (0, v), (2, .pointer (some ⟨g2, 0, none⟩)), (4, .pointer (some ⟨g4, 0, none⟩))]) x.1 x.2.1 x.2.2)) (μ := (fun x => (fun i acc q => l.length - i) x.1 x.2.1 x.2.2)) (j, acc ++ [⟨e45, e50, e55, hopsAt l (i + 4) k⟩], .slice Av106 (acc ++ [(⟨e45, e50, e55, (hopsAt l (i + 4) k)⟩ : Part)]).length cv106) ?_ (by exact ⟨rfl, rfl, rfl, rfl, trivial⟩) (by (try dsimp only); omega)
          try dsimp only
          have hj2 : i + 4 + 5 * e23.toNat = j := by omega
          rw [hpA, hj2] at hst
          refine ⟨by omega, by rw [← hst]; exact hp, by rw [sz_snoc]; show sz_path acc + 1 + (hopsAt l (i + 4) k).length ≤ j; omega, ?_, B, S⟩
          intro x hx
          rcases List.mem_append.1 hx with hx | hx
          · exact hrg x hx
          · rw [List.mem_singleton] at hx
            rw [hx, ← hpA]
            exact partAt_rng hg i
    · intro hge
      have hend := hp.symm.trans (pfi_done (by omega))
      have hok2 := lenOk_sz (p := acc) (by omega)
      refine w_exit ?_
      refine x_then_exit ?_
      refine x_then_exit ?_
      refine x_block_exit ?_
      refine x_seq ?_
      refine w_seq ?_
      refine w_seq ?_
      refine w_region ?_
      refine t_bxn S.box ab_path sb_path rfl rfl ?_ rfl
      refine t_callx Try.call51 rfl (va1 (path_mkv (S.tail.sl)) fun cs h => spec_EncodablePath _ cs _ h (by omega) (by assumption) (by assumption)) ?_ rfl rfl
      intro w73 x74
      have B := bx Hb B x74
      have S := S.below x74
      refine t_notb rfl ?_ rfl
      refine t_done ?_
      refine x_seq ?_
      refine w_ifb rfl ?_ ?_
      · intro h4
        refine w_seq ?_
        refine w_region ?_
        refine t_build (fun w => b_path0 w) rfl ?_ rfl
        have S := S.f2
        refine t_stn S sb_path rfl rfl rfl rfl (by simp [Value.oneCell']) ?_
        intro w75 b76 S
        have B := B.trans b76
        refine t_assign rfl ?_ rfl
        refine t_done ?_
        refine x_seq ?_
        refine w_ret ?_
        refine x_then_ret ?_
        refine x_retct rfl rfl S.box ab_path sb_path rfl rfl ?_
        have hbad := pathOf_no hend (by simpa using h4)
        obtain ⟨fp, hO⟩ := ((S.addNil (T := partT) (e := 71)).pathShut (x := [])).head
        exact ⟨_, fp, by rw [hbad], by rw [hbad]; exact pathT.mono _ _ _ _ _ _ X0.size hO, ext_trans X0 B⟩
      · intro h4
        refine w_skip ?_
        refine x_seq ?_
        refine w_seq ?_
        refine w_region ?_
        refine t_bxn S.box ab_path sb_path rfl rfl ?_ rfl
        have S := S.f2
        refine t_stn S sb_path rfl rfl rfl rfl (by intro zz hu; have hu : zz ∈ ([q] : List Value) := hu; simp only [List.mem_cons, List.not_mem_nil, or_false] at hu; rcases hu with rfl <;> first | rfl | exact (SlR.cells (by first | assumption | exact S.tail.sl | exact S.tail.tail.sl | exact S.tail.tail.tail.sl | exact S.tail.tail.tail.tail.sl | exact S.tail.tail.tail.tail.tail.sl | exact S.tail.tail.tail.tail.tail.tail.sl | exact S.tail.tail.tail.tail.tail.tail.tail.sl | exact S.tail.tail.tail.tail.tail.tail.tail.tail.sl)).2) ?_
        intro w77 b78 S
        have B := B.trans b78
        refine t_assign rfl ?_ rfl
        refine t_done ?_
        refine x_seq ?_
        refine w_ret ?_
        refine x_retct rfl rfl S.box ab_path sb_path rfl rfl ?_
        have hyes := pathOf_yes hend (by simpa using h4)
        obtain ⟨fp, hO⟩ := (S.f2.pathShut).head
        exact ⟨_, fp, by rw [hyes], by rw [hyes]; exact pathT.mono _ _ _ _ _ _ X0.size hO, ext_trans X0 B⟩
end Go.Proofs.Ytdaecknfahgddaa
namespace Go.Proofs.Ytdaecknfahgddaa
open Go.RowKit
set_option linter.unusedVariables false
set_option maxRecDepth 20000
/-- A number's bytes from place i on: place k of it is at hand, n is so far. -/
def rvK (b : List UInt8) : Nat → Nat → Int → Nat → Option (Int × Nat)
  | 0, _, _, _ => none
  | f + 1, k, n, i => match b[i]? with
    | none => none
    | some x => if x.toNat < 128 then (if (x.toNat = 0 ∧ 0 < k) ∨ 1000000000000 < n + (x.toNat : Int) % 128 * 128 ^ k then none else some (n + (x.toNat : Int) % 128 * 128 ^ k, i + 1)) else rvK b f (k + 1) (n + (x.toNat : Int) % 128 * 128 ^ k) (i + 1)
def readV (b : List UInt8) (i : Nat) : Option (Int × Nat) := rvK b 6 0 0 i
/-- What a reader of numbers hands back. -/
def rv3 : Option (Int × Nat) → Int × Int × Bool
  | none => (0, 0, false)
  | some (n, i) => (n, i, true)
def readVI (b : List UInt8) (i : Int) : Option (Int × Nat) := if 0 ≤ i then readV b i.toNat else none
theorem rvK_end {b : List UInt8} {f k i : Nat} {n : Int} (h : b.length ≤ i) : rvK b f k n i = none := by
  cases f with
  | zero => rfl
  | succ f => rw [rvK, List.getElem?_eq_none h]
theorem rvK_more {b : List UInt8} {f k i : Nat} {n : Int} {x : UInt8} (hx : b[i]? = some x) (h : ¬ x.toNat < 128) : rvK b (f + 1) k n i = rvK b f (k + 1) (n + (x.toNat : Int) % 128 * 128 ^ k) (i + 1) := by
  rw [rvK, hx]; simp only [if_neg h]
theorem rvK_bad {b : List UInt8} {f k i : Nat} {n : Int} {x : UInt8} (hx : b[i]? = some x) (h : x.toNat < 128) (hb : (x.toNat = 0 ∧ 0 < k) ∨ 1000000000000 < n + (x.toNat : Int) % 128 * 128 ^ k) : rvK b (f + 1) k n i = none := by
  rw [rvK, hx]; simp only [if_pos h, if_pos hb]
theorem rvK_last {b : List UInt8} {f k i : Nat} {n : Int} {x : UInt8} (hx : b[i]? = some x) (h : x.toNat < 128) (hb : ¬ ((x.toNat = 0 ∧ 0 < k) ∨ 1000000000000 < n + (x.toNat : Int) % 128 * 128 ^ k)) : rvK b (f + 1) k n i = some (n + (x.toNat : Int) % 128 * 128 ^ k, i + 1) := by
  rw [rvK, hx]; simp only [if_pos h, if_neg hb]
theorem rvK_out {b : List UInt8} : ∀ {f k i : Nat} {n : Int} {r : Int × Nat}, 0 ≤ n → rvK b f k n i = some r → 0 ≤ r.1 ∧ r.1 ≤ 1000000000000 ∧ i < r.2 ∧ r.2 ≤ b.length
  | 0, _, _, _, _, _, h => by cases h
  | f + 1, k, i, n, r, hn, h => by
    have hp : (0 : Int) ≤ 128 ^ k := Int.pow_nonneg (by omega)
    cases hx : b[i]? with
    | none => rw [rvK, hx] at h; cases h
    | some x =>
      have hi := (List.getElem?_eq_some_iff.1 hx).1
      have h0 : 0 ≤ (x.toNat : Int) % 128 * 128 ^ k := Int.mul_nonneg (by omega) hp
      by_cases hs : x.toNat < 128
      · by_cases hb : (x.toNat = 0 ∧ 0 < k) ∨ 1000000000000 < n + (x.toNat : Int) % 128 * 128 ^ k
        · rw [rvK_bad hx hs hb] at h; cases h
        · rw [rvK_last hx hs hb] at h
          cases h
          exact ⟨by show 0 ≤ n + _; omega, by show n + _ ≤ _; omega, by show i < i + 1; omega, by show i + 1 ≤ _; omega⟩
      · rw [rvK_more hx hs] at h
        have := rvK_out (by omega) h
        exact ⟨this.1, this.2.1, by omega, this.2.2.2⟩
theorem readV_out {b : List UInt8} {i : Nat} {r : Int × Nat} (h : readV b i = some r) : 0 ≤ r.1 ∧ r.1 ≤ 1000000000000 ∧ i < r.2 ∧ r.2 ≤ b.length := rvK_out (by omega) h
theorem readVI_out {b : List UInt8} {i : Int} {r : Int × Nat} (h : readVI b i = some r) : 0 ≤ r.1 ∧ r.1 ≤ 1000000000000 ∧ i < r.2 ∧ r.2 ≤ b.length ∧ 0 ≤ i := by
  unfold readVI at h
  split at h
  · have := readV_out h; omega
  · cases h
/-- Some numbers, one behind the other. -/
def decA (b : List UInt8) : Nat → Nat → List Int → Option (List Int × Nat)
  | 0, i, acc => some (acc, i)
  | n + 1, i, acc => match readV b i with
    | none => none
    | some (x, j) => decA b n j (acc ++ [x])
theorem decA_no {b : List UInt8} {n i : Nat} {acc : List Int} (h : readV b i = none) : decA b (n + 1) i acc = none := by rw [decA, h]
theorem decA_yes {b : List UInt8} {n i j : Nat} {x : Int} {acc : List Int} (h : readV b i = some (x, j)) : decA b (n + 1) i acc = decA b n j (acc ++ [x]) := by rw [decA, h]
theorem decA_add {b : List UInt8} : ∀ (m n i : Nat) (acc : List Int), decA b (m + n) i acc = match decA b m i acc with
    | none => none
    | some (l, j) => decA b n j l
  | 0, n, i, acc => by simp [decA]
  | m + 1, n, i, acc => by
    rw [show m + 1 + n = (m + n) + 1 by omega]
    cases h : readV b i with
    | none => rw [decA_no h, decA_no h]
    | some r =>
      obtain ⟨x, j⟩ := r
      rw [decA_yes h, decA_yes h, decA_add m n j]
theorem decA_acc {b : List UInt8} : ∀ (n i : Nat) (acc pre : List Int), decA b n i (pre ++ acc) = (decA b n i acc).map fun r => (pre ++ r.1, r.2)
  | 0, i, acc, pre => rfl
  | n + 1, i, acc, pre => by
    cases h : readV b i with
    | none => rw [decA_no h, decA_no h]; rfl
    | some r =>
      obtain ⟨x, j⟩ := r
      rw [decA_yes h, decA_yes h, List.append_assoc, decA_acc n j]
theorem decA_pre {b : List UInt8} (n i : Nat) (pre : List Int) : decA b n i pre = (decA b n i []).map fun r => (pre ++ r.1, r.2) := by
  have := decA_acc (b := b) n i [] pre
  rwa [List.append_nil] at this
theorem decA_out {b : List UInt8} : ∀ {n i : Nat} {acc : List Int} {r : List Int × Nat}, decA b n i acc = some r → (∀ x ∈ acc, 0 ≤ x ∧ x ≤ 1000000000000) → i ≤ b.length → r.1.length = acc.length + n ∧ (∀ x ∈ r.1, 0 ≤ x ∧ x ≤ 1000000000000) ∧ i ≤ r.2 ∧ r.2 ≤ b.length
  | 0, i, acc, r, h, ha, hi => by cases h; exact ⟨rfl, ha, Nat.le_refl _, hi⟩
  | n + 1, i, acc, r, h, ha, hi => by
    cases hr : readV b i with
    | none => rw [decA_no hr] at h; cases h
    | some q =>
      obtain ⟨x, j⟩ := q
      have ho := readV_out hr
      rw [decA_yes hr] at h
      have := decA_out h (fun y hy => by
        rcases List.mem_append.1 hy with hy | hy
        · exact ha y hy
        · rw [List.mem_singleton] at hy; rw [hy]; exact ⟨ho.1, ho.2.1⟩) ho.2.2.2
      have h3 : j ≤ r.2 := this.2.2.1
      have h4 : i < j := ho.2.2.1
      refine ⟨?_, this.2.1, by omega, this.2.2.2⟩
      rw [this.1, List.length_append, List.length_singleton]; omega
/-- Some numbers from a place that may lie outside. -/
def decI (b : List UInt8) (i : Int) (n : Int) : Option (List Int × Nat) := if inR n 0 100 && inR i 0 b.length then decA b n.toNat i.toNat [] else none
def dec3 : Option (List Int × Nat) → List Int × Int × Bool
  | none => ([], 0, false)
  | some (l, i) => (l, i, true)
theorem decI_out {b : List UInt8} {i n : Int} {r : List Int × Nat} (h : decI b i n = some r) : r.1.length = n.toNat ∧ (∀ x ∈ r.1, 0 ≤ x ∧ x ≤ 1000000000000) ∧ i ≤ r.2 ∧ r.2 ≤ b.length := by
  unfold decI at h
  split at h
  · rename_i hc
    simp only [Bool.and_eq_true] at hc
    have h2 := inR_iff.1 hc.2
    have := decA_out h (fun x hx => by cases hx) (by omega)
    refine ⟨by rw [this.1]; simp, this.2.1, by omega, this.2.2.2⟩
  · cases h
def partOfI (h hs : List Int) : Part := ⟨gI h 0, gI h 1, gI h 2, hopsAt hs 0 (gI h 3).toNat⟩
def rpK (b : List UInt8) : Nat → Nat → Path → Option (Path × Nat)
  | 0, i, acc => if encPath acc then some (acc, i) else none
  | n + 1, i, acc => match decA b 4 i [] with
    | none => none
    | some (h, j) => if 8 < gI h 3 then none else match decA b (5 * (gI h 3).toNat) j [] with
      | none => none
      | some (hs, e) => rpK b n e (acc ++ [partOfI h hs])
def readP (b : List UInt8) (i : Int) : Option (Path × Nat) := match readVI b i with
  | none => none
  | some (n, j) => if 3 < n then none else rpK b n.toNat j []
def rp3 : Option (Path × Nat) → Path × Int × Bool
  | none => ([], 0, false)
  | some (p, i) => (p, i, true)
theorem encPath_cat {p q : Path} (h : encPath (p ++ q) = true) : encPath p = true := by
  unfold encPath at *
  simp only [Bool.and_eq_true, decide_eq_true_eq, List.length_append, List.all_append] at h ⊢
  exact ⟨by omega, h.2.1⟩
/-- A part that cannot be encoded spoils the rest. -/
theorem rpK_spoilt {b : List UInt8} : ∀ (n i : Nat) (acc : Path), encPath acc = false → rpK b n i acc = none
  | 0, i, acc, h => by rw [rpK, h]; rfl
  | n + 1, i, acc, h => by
    rw [rpK]
    split
    · rfl
    · split
      · rfl
      · split
        · rfl
        · refine rpK_spoilt n _ _ ?_
          cases hc : encPath (acc ++ [partOfI _ _])
          · rfl
          · rw [encPath_cat hc] at h; cases h
theorem rpK_enc {b : List UInt8} : ∀ (n i : Nat) (acc : Path) {r : Path × Nat}, rpK b n i acc = some r → encPath r.1 = true ∧ (i ≤ b.length → r.2 ≤ b.length)
  | 0, i, acc, r, h => by
    rw [rpK] at h
    split at h
    · rename_i he
      cases h
      exact ⟨he, fun h => h⟩
    · cases h
  | n + 1, i, acc, r, h => by
    rw [rpK] at h
    split at h
    · cases h
    · rename_i h1 j hd
      split at h
      · cases h
      · split at h
        · cases h
        · rename_i hs e hd2
          have hi := rpK_enc n _ _ h
          refine ⟨hi.1, fun hb => hi.2 ?_⟩
          have hj := decA_out hd (fun x hx => by cases hx) hb
          exact (decA_out hd2 (fun x hx => by cases hx) hj.2.2.2).2.2.2
theorem readP_out {b : List UInt8} {i : Int} {r : Path × Nat} (h : readP b i = some r) : encPath r.1 = true ∧ r.2 ≤ b.length := by
  unfold readP at h
  split at h
  · cases h
  · rename_i n j hv
    split at h
    · cases h
    · have := rpK_enc _ _ _ h
      exact ⟨this.1, this.2 (readVI_out hv).2.2.2.1⟩
theorem gI_app {a b : List Int} {i : Nat} : gI (a ++ b) (a.length + i) = gI b i := by
  unfold gI; rw [List.getElem?_append_right (by omega), show a.length + i - a.length = i by omega]
theorem gI_left {a b : List Int} {i : Nat} (h : i < a.length) : gI (a ++ b) i = gI a i := by
  unfold gI; rw [List.getElem?_append_left h]
theorem hopAt_app {a b : List Int} {i : Nat} : hopAt (a ++ b) (a.length + i) = hopAt b i := by
  unfold hopAt; simp only [Nat.add_assoc, gI_app]
theorem hopsAt_app {a b : List Int} {i n : Nat} : hopsAt (a ++ b) (a.length + i) n = hopsAt b i n := by
  unfold hopsAt; simp only [Nat.add_assoc, hopAt_app]
theorem hopAt_piH (h : Hop) (l : List Int) : hopAt (piH h ++ l) 0 = h := rfl
theorem piH_len (hs : List Hop) : (hs.flatMap piH).length = 5 * hs.length := by
  induction hs with
  | nil => rfl
  | cons a t ih => rw [List.flatMap_cons, List.length_append, ih]; show 5 + _ = 5 * (t.length + 1); omega
theorem hopsAt_zero (l : List Int) (i : Nat) : hopsAt l i 0 = [] := rfl
theorem hopsAt_cons (l : List Int) (i n : Nat) : hopsAt l i (n + 1) = hopAt l i :: hopsAt l (i + 5) n := by
  unfold hopsAt
  rw [List.range_succ_eq_map, List.map_cons, List.map_map]
  have : ((List.range n).map ((fun j => hopAt l (i + 5 * j)) ∘ Nat.succ)) = (List.range n).map fun j => hopAt l (i + 5 + 5 * j) := List.map_congr_left fun j _ => by
    show hopAt l (i + 5 * (j + 1)) = hopAt l (i + 5 + 5 * j)
    rw [show i + 5 * (j + 1) = i + 5 + 5 * j by omega]
  rw [this]; rfl
theorem hopsAt_flat (hs : List Hop) : ∀ l : List Int, hopsAt (hs.flatMap piH ++ l) 0 hs.length = hs := by
  induction hs with
  | nil => intro l; rfl
  | cons a t ih =>
    intro l
    rw [List.length_cons, hopsAt_cons, List.flatMap_cons, List.append_assoc, hopAt_piH]
    have : hopsAt (piH a ++ (t.flatMap piH ++ l)) (0 + 5) t.length = hopsAt (t.flatMap piH ++ l) 0 t.length := hopsAt_app (a := piH a) (i := 0)
    rw [this, ih l]
theorem hopsAt_ints (l : List Int) (n : Nat) (h : l.length = 5 * n) : (hopsAt l 0 n).flatMap piH = l := by
  induction n generalizing l with
  | zero => rw [List.eq_nil_of_length_eq_zero (by omega : l.length = 0)]; rfl
  | succ n ih =>
    obtain ⟨a, b, c, d, e, t, rfl⟩ : ∃ a b c d e t, l = a :: b :: c :: d :: e :: t := by
      rcases l with _ | ⟨a, _ | ⟨b, _ | ⟨c, _ | ⟨d, _ | ⟨e, t⟩⟩⟩⟩⟩
      all_goals first | exact ⟨_, _, _, _, _, _, rfl⟩ | (simp at h; done) | (simp at h; omega)
    rw [hopsAt_cons, List.flatMap_cons]
    have h1 : hopAt (a :: b :: c :: d :: e :: t) 0 = ⟨a, b, c, d, e⟩ := rfl
    have h2 : hopsAt (a :: b :: c :: d :: e :: t) (0 + 5) n = hopsAt t 0 n := hopsAt_app (a := [a, b, c, d, e]) (i := 0)
    rw [h1, h2, ih t (by simp at h; omega)]
    rfl
/-- The numbers of a path, read again. -/
theorem pfi_ints (q : Path) : ∀ (pre : List Int) (acc : Path), (∀ x ∈ q, x.hops.length ≤ 8) → pfi (pre ++ pathInts q) pre.length acc = some (acc ++ q) := by
  induction q with
  | nil =>
    intro pre acc _
    rw [pfi_done (by simp [pathInts, intsOf]), List.append_nil]
  | cons x t ih =>
    intro pre acc h8
    have hx := h8 x (by simp)
    have e0 : pathInts (x :: t) = piP x ++ (x.hops.flatMap piH ++ pathInts t) := by
      show intsOf piP piH (x :: t) = _
      unfold intsOf
      rw [List.flatMap_cons, List.append_assoc]
      rfl
    have hl4 : (piP x).length = 4 := rfl
    have hlh := piH_len x.hops
    have g3 : gI (pre ++ pathInts (x :: t)) (pre.length + 3) = x.hops.length := by rw [gI_app, e0]; rfl
    have hlen : (pre ++ pathInts (x :: t)).length = pre.length + 4 + 5 * x.hops.length + (pathInts t).length := by
      rw [e0]; simp only [List.length_append, hl4, hlh]; omega
    have hok : okAt (pre ++ pathInts (x :: t)) pre.length := by
      unfold okAt
      rw [g3, hlen]
      omega
    have hpA : partAt (pre ++ pathInts (x :: t)) pre.length = x := by
      unfold partAt
      rw [g3]
      have a0 : gI (pre ++ pathInts (x :: t)) pre.length = x.kind := by have := gI_app (a := pre) (b := pathInts (x :: t)) (i := 0); rw [Nat.add_zero] at this; rw [this, e0]; rfl
      have a1 : gI (pre ++ pathInts (x :: t)) (pre.length + 1) = x.ts := by rw [gI_app, e0]; rfl
      have a2 : gI (pre ++ pathInts (x :: t)) (pre.length + 2) = x.beta := by rw [gI_app, e0]; rfl
      have a4 : hopsAt (pre ++ pathInts (x :: t)) (pre.length + 4) ((x.hops.length : Int)).toNat = x.hops := by
        rw [hopsAt_app, e0]
        have := hopsAt_app (a := piP x) (b := x.hops.flatMap piH ++ pathInts t) (i := 0) (n := x.hops.length)
        rw [hl4] at this
        rw [Int.toNat_natCast]
        exact this.trans (hopsAt_flat x.hops _)
      rw [a0, a1, a2, a4]
    rw [pfi_step (by rw [hlen]; omega) hok, hpA, g3]
    have e1 : pre ++ pathInts (x :: t) = (pre ++ piP x ++ x.hops.flatMap piH) ++ pathInts t := by rw [e0]; simp only [List.append_assoc]
    have e2 : pre.length + 4 + 5 * ((x.hops.length : Int)).toNat = (pre ++ piP x ++ x.hops.flatMap piH).length := by
      simp only [List.length_append, hl4, hlh, Int.toNat_natCast]
    rw [e1, e2, ih _ _ fun y hy => h8 y (by simp [hy]), List.append_assoc]
    rfl
theorem pathOf_ints {q : Path} (h : ∀ x ∈ q, x.hops.length ≤ 8) : pathOf (pathInts q) = if encPath q then (q, true) else ([], false) := by
  have := pfi_ints q [] [] h
  rw [List.nil_append, List.nil_append, List.length_nil] at this
  unfold pathOf
  rw [this]
end Go.Proofs.Ytdaecknfahgddaa
namespace Go.Proofs.Ytdaecknfahgddaa
open Go.RowKit
set_option linter.unusedVariables false
set_option maxRecDepth 20000
section
variable {P : Program} {n : Nat} {ops : Array Oper} {Q : Exit → Act → World → Prop} {L : Frm} {w : World} {m : Md} {r : IT} {d : Nat} {ty : TypeId} {pos : String} {af : Array Edge}
theorem pow128 {k : Nat} (h : k < 6) : (1 : Int) ≤ 128 ^ k ∧ (128 : Int) ^ k ≤ 34359738368 := by
  rcases k with _ | _ | _ | _ | _ | _ | k
  all_goals first | omega | (constructor <;> simp)
theorem mul128 {k : Nat} {c : Int} (h : k < 6) (h0 : 0 ≤ c) (h1 : c ≤ 127) : 0 ≤ c * 128 ^ k ∧ c * 128 ^ k ≤ 127 * 128 ^ k := by
  have hp := (pow128 h).1
  exact ⟨Int.mul_nonneg h0 (by omega), Int.mul_le_mul_of_nonneg_right h1 (by omega)⟩
theorem t_conv8 {s t : TypeId} {x : Operand} {sd : TypeDesc} {a : UInt8} (hs : P.underlying s = some sd) (ht : P.underlying t = some (.int .i64)) (hx : ev L x = some (.int .u8 (a.toNat : Int))) (k : WT P n ops Q r ((d, I (a.toNat : Int)) :: L) w) (hn : Nat.blt d n = true) : WT P n ops Q (.st m ⟨some d, .convert s t x, ty, pos, af, none⟩ r) L w := by
  have h := a.toNat_lt
  have hw : IntKind.i64.wrap (a.toNat : Int) = a.toNat := wr64 (by omega)
  exact t_read (fun e ha _ _ _ w' _ => by simp [execOp, ha.ev hx, convert, run_underlying hs, run_underlying ht, Conv.intToInt, hw]) k hn
theorem two7 (k : Nat) : (2 : Int) ^ (7 * k) = 128 ^ k := by rw [Int.pow_mul]; rfl
theorem t_shl7 {k : Nat} {x y : Operand} {t t' : TypeId} {kd : IntKind} {a c : Int} (hx : ev L x = some (I a)) (hy : ev L y = some (.int kd c)) (hc : c = 7 * (k : Int)) (hk : k < 6) (ha : 0 ≤ a ∧ a ≤ 127) (kk : WT P n ops Q r ((d, I (a * 128 ^ k)) :: L) w) (hn : Nat.blt d n = true) : WT P n ops Q (.st m ⟨some d, .binOp .shl t x y t', ty, pos, af, none⟩ r) L w := by
  have h1 := mul128 hk ha.1 ha.2
  have h2 := pow128 hk
  have hw : IntKind.i64.wrap (a * 128 ^ k) = a * 128 ^ k := wr64 (by omega)
  refine t_read (fun e ha' _ _ _ w' _ => ?_) kk hn
  have e1 : c.toNat = 7 * k := by omega
  simp [execOp, ha'.ev hx, ha'.ev hy, eqGuard, binOp, e1, two7, hw]
theorem t_or7 {k : Nat} {c : Int} {x y : Operand} {t t' : TypeId} {a : Int} (hx : ev L x = some (I a)) (hy : ev L y = some (I (c * 128 ^ k))) (ha : 0 ≤ a ∧ a < 128 ^ k) (hc : 0 ≤ c ∧ c ≤ 127) (hk : k < 6) (kk : WT P n ops Q r ((d, I (a + c * 128 ^ k)) :: L) w) (hn : Nat.blt d n = true) : WT P n ops Q (.st m ⟨some d, .binOp .or t x y t', ty, pos, af, none⟩ r) L w := by
  have h1 := mul128 hk hc.1 hc.2
  have h2 := pow128 hk
  have e1 : bits .or .i64 a (c * 128 ^ k) = a + c * 128 ^ k := by
    have hcm : bits .or .i64 a (c * 128 ^ k) = bits .or .i64 (c * 128 ^ k) a := by simp only [bits, BitVec.or_comm]
    rw [hcm, bits_join .i64 62 (by decide) (fun n h0 h1 => by rw [IntKind.wrap_i64]; omega) (7 * k) (c * 128 ^ k) a h1.1 (by rw [two7]; exact Int.mul_emod_left _ _) (by omega) ha.1 (by rw [two7]; exact ha.2) (by omega)]
    omega
  exact t_read (fun e ha' _ _ _ w' _ => by simp [execOp, ha'.ev hx, ha'.ev hy, eqGuard, binOp, intBits_or, e1]) kk hn
end
theorem rv3_true {o : Option (Int × Nat)} {n j : Int} (h : rv3 o = (n, j, true)) : ∃ m : Nat, o = some (n, m) ∧ j = m := by
  rcases o with _ | ⟨a, m⟩
  · cases h
  · cases h; exact ⟨m, rfl, rfl⟩
theorem rv3_false {o : Option (Int × Nat)} {n j : Int} (h : rv3 o = (n, j, false)) : o = none := by
  rcases o with _ | ⟨a, m⟩
  · rfl
  · cases h
theorem ret_rv {o : Option (Int × Nat)} {n j a c : Int} {ok d : Bool} (hr : rv3 o = (n, j, ok)) (h : rv3 o = (a, c, d)) : Ending.returned (.tuple #[I a, I c, .bool d]) = .returned (.tuple #[I n, I j, .bool ok]) := by
  rw [h] at hr
  cases hr
  rfl
theorem impl_ReadVarint (b : List UInt8) (v : Value) (i : Int) {n0 j0 : Int} {ok0 : Bool} (w : World) (h : SlR byteT w v b) (hz : b.length ≤ 1048576) (hi : i ≤ 9223372036854775807) (hr : rv3 (readVI b i) = (n0, j0, ok0)) : Calls Try.prog 80 #[v, I i] w fun e w' => e = .returned (.tuple #[I n0, I j0, .bool ok0]) ∧ Below w.heap.size w w' := by
  have X0 := Below.refl w.heap.size w
  refine enter Try.func80 rfl Try.ntmps80 rfl ?_
  refine w_seq ?_
  refine w_region ?_
  have S := Sep.nil w
  have B := Below.refl w.heap.size w
  have Hb := Nat.le_refl w.heap.size
  refine t_assign rfl ?_ rfl
  refine t_assign rfl ?_ rfl
  refine t_assign rfl ?_ rfl
  refine t_done ?_
  refine x_seq ?_
  refine w_seq ?_
  refine w_seq ?_
  refine w_region ?_
  refine t_move rfl ?_ rfl
  refine t_lss rfl rfl ?_ rfl
  refine t_done ?_
  refine x_seq ?_
  refine w_if rfl ?_ ?_
  · intro h1
    refine w_seq ?_
    refine w_region ?_
    refine t_assign rfl ?_ rfl
    refine t_assign rfl ?_ rfl
    refine t_assign rfl ?_ rfl
    refine t_done ?_
    refine x_seq ?_
    refine w_ret ?_
    refine x_then_ret ?_
    refine x_ret3 rfl rfl rfl rfl ?_
    exact ⟨ret_rv hr (by rw [readVI, if_neg (by omega)]; rfl), X0⟩
  intro h1
  obtain ⟨i0, rfl⟩ : ∃ i0 : Nat, i = i0 := ⟨i.toNat, by omega⟩
  have hrv : readVI b (i0 : Int) = rvK b 6 0 0 i0 := by rw [readVI, if_pos (by omega)]; rfl
  refine w_skip ?_
  refine x_seq ?_
  refine w_seq ?_
  refine w_region ?_
  refine t_assign rfl ?_ rfl
  refine t_done ?_
  refine x_seq ?_
  refine w_seq ?_
  refine w_seq ?_
  refine w_region ?_
  refine t_assign rfl ?_ rfl
  refine t_done ?_
  refine x_seq ?_
  refine w_block ?_
  refine w_loop (X := Nat × Nat × Int) (fun x wq => (fun k i n => k ≤ 6 ∧ 0 ≤ n ∧ n < 128 ^ k ∧ rvK b (6 - k) k n i = rvK b 6 0 0 i0 ∧ Below w.heap.size w wq ∧ Sep w.heap.size wq []) x.1 x.2.1 x.2.2) (fun x => (fun k i n => [(8, I ((k : Int))), (1, I ((i : Int))), (7, I n), (0, v)]) x.1 x.2.1 x.2.2) (fun x => (fun k i n => 6 - k) x.1 x.2.1 x.2.2) (0, i0, 0) ?_ ⟨rfl, rfl, rfl, rfl, trivial⟩ ?_
  · exact ⟨by omega, by simp, by simp, rfl, B, S⟩
  · rintro ⟨k, i, n⟩ w1 hI
    try dsimp only at hI ⊢
    obtain ⟨hk, hn0, hn1, hq, B, S⟩ := hI
    refine w_seq ?_
    refine w_seq ?_
    refine w_region ?_
    refine t_move rfl ?_ rfl
    refine t_lss rfl rfl ?_ rfl
    refine t_move rfl ?_ rfl
    refine t_partp (t := 14) rfl ?_ ?_
    · intro hk6
      refine t_on rfl rfl ?_
      refine t_move rfl ?_ rfl
      refine t_on rfl rfl ?_
      refine t_move rfl ?_ rfl
      refine t_on rfl rfl ?_
      refine t_len e_byte (by assumption) rfl rfl ?_ rfl
      refine t_on rfl rfl ?_
      refine t_lss rfl rfl ?_ rfl
      refine t_pickt rfl rfl ?_ rfl
      refine t_done ?_
      refine x_seq ?_
      refine w_if rfl ?_ ?_
      · intro hlt
        obtain ⟨x, hx⟩ : ∃ x, b[i]? = some x := getx (by omega)
        have hk' : k < 6 := by omega
        have hb8 : x.toNat < 256 := x.toNat_lt
        have hm := mul128 (c := (x.toNat : Int) % 128) hk' (by omega) (by omega)
        have hp := pow128 hk'
        have hf : 6 - k = (6 - (k + 1)) + 1 := by omega
        have hp7 : (128 : Int) ^ (k + 1) = 128 ^ k * 128 := Int.pow_succ ..
        rw [hf] at hq
        refine w_skip ?_
        refine x_seq ?_
        refine w_seq ?_
        refine w_block ?_
        refine w_seq ?_
        refine w_region ?_
        refine t_move rfl ?_ rfl
        refine t_move rfl ?_ rfl
        refine t_idx e_byte (k := i) (by assumption) hx B rfl rfl (by first | rfl | omega) ?_ rfl
        intro p24 hp24
        refine t_ldu (by assumption) ab_byte B rfl ?_ rfl
        refine t_conv8 Try.underlying5 Try.underlying3 rfl ?_ rfl
        refine t_assign rfl ?_ rfl
        refine t_done ?_
        refine x_seq ?_
        refine w_seq ?_
        refine w_region ?_
        refine t_move rfl ?_ rfl
        refine t_add rfl rfl (by omega) ?_ rfl
        refine t_assign rfl ?_ rfl
        refine t_done ?_
        refine x_seq ?_
        refine w_seq ?_
        refine w_region ?_
        refine t_move rfl ?_ rfl
        refine t_move rfl ?_ rfl
        refine t_rem rfl rfl (by omega) ?_ rfl
        refine t_move rfl ?_ rfl
        refine t_mul rfl rfl (by omega) ?_ rfl
        refine t_conv Try.underlying3 Try.underlying122 rfl ?_ rfl
        refine t_shl7 (k := k) rfl rfl (by first | rfl | omega | (rw [IntKind.wrap_u64]; omega)) (by omega) (by omega) ?_ rfl
        refine t_add rfl rfl (by omega) ?_ rfl
        refine t_assign rfl ?_ rfl
        refine t_done ?_
        refine x_seq ?_
        refine w_seq ?_
        refine w_region ?_
        refine t_move rfl ?_ rfl
        refine t_lss rfl rfl ?_ rfl
        refine t_done ?_
        refine x_seq ?_
        refine w_if rfl ?_ ?_
        · intro hs
          have hs' : x.toNat < 128 := by omega
          refine w_seq ?_
          refine w_seq ?_
          refine w_region ?_
          refine t_move rfl ?_ rfl
          refine t_eql rfl rfl ?_ rfl
          refine t_move rfl ?_ rfl
          refine t_partp (t := 41) rfl ?_ ?_
          · intro hx0
            refine t_on rfl rfl ?_
            refine t_move rfl ?_ rfl
            refine t_on rfl rfl ?_
            refine t_gtr rfl rfl ?_ rfl
            refine t_pickt rfl rfl ?_ rfl
            refine t_move rfl ?_ rfl
            refine t_partp (t := 45) rfl ?_ ?_
            · intro hbad
              refine t_off rfl rfl rfl ?_ rfl
              refine t_off rfl rfl rfl ?_ rfl
              refine t_pickt rfl rfl ?_ rfl
              refine t_done ?_
              refine x_seq ?_
              refine w_yes rfl ?_
              refine w_seq ?_
              refine w_region ?_
              refine t_assign rfl ?_ rfl
              refine t_assign rfl ?_ rfl
              refine t_assign rfl ?_ rfl
              refine t_done ?_
              refine x_seq ?_
              refine w_ret ?_
              refine x_then_ret ?_
              refine x_block_ret ?_
              refine x_then_ret ?_
              refine x_then_ret ?_
              refine x_block_ret ?_
              refine x_then_ret ?_
              refine x_ret3 rfl rfl rfl rfl ?_
              rw [rvK_bad hx hs' (.inl ⟨by omega, by omega⟩)] at hq
              exact ⟨ret_rv hr (by rw [hrv, ← hq]; rfl), ext_trans X0 B⟩
            · intro hbad
              refine t_on rfl rfl ?_
              refine t_move rfl ?_ rfl
              refine t_on rfl rfl ?_
              refine t_gtr rfl rfl ?_ rfl
              refine t_pickf rfl rfl ?_ rfl
              refine t_done ?_
              refine x_seq ?_
              refine w_if rfl ?_ ?_
              · intro hbig
                refine w_seq ?_
                refine w_region ?_
                refine t_assign rfl ?_ rfl
                refine t_assign rfl ?_ rfl
                refine t_assign rfl ?_ rfl
                refine t_done ?_
                refine x_seq ?_
                refine w_ret ?_
                refine x_then_ret ?_
                refine x_block_ret ?_
                refine x_then_ret ?_
                refine x_then_ret ?_
                refine x_block_ret ?_
                refine x_then_ret ?_
                refine x_ret3 rfl rfl rfl rfl ?_
                rw [rvK_bad hx hs' (.inr (by omega))] at hq
                exact ⟨ret_rv hr (by rw [hrv, ← hq]; rfl), ext_trans X0 B⟩
              · intro hbig
                refine w_skip ?_
                refine x_seq ?_
                refine w_seq ?_
                refine w_region ?_
                refine t_move rfl ?_ rfl
                refine t_move rfl ?_ rfl
                refine t_assign rfl ?_ rfl
                refine t_assign rfl ?_ rfl
                refine t_assign rfl ?_ rfl
                refine t_done ?_
                refine x_seq ?_
                refine w_ret ?_
                refine x_block_ret ?_
                refine x_then_ret ?_
                refine x_then_ret ?_
                refine x_block_ret ?_
                refine x_then_ret ?_
                refine x_ret3 rfl rfl rfl rfl ?_
                rw [rvK_last hx hs' (by omega)] at hq
                exact ⟨ret_rv hr (by rw [hrv, ← hq]; rfl), ext_trans X0 B⟩
          · intro hx0
            refine t_off rfl rfl rfl ?_ rfl
            refine t_off rfl rfl rfl ?_ rfl
            refine t_pickf rfl rfl ?_ rfl
            refine t_move rfl ?_ rfl
            refine t_on rfl rfl ?_
            refine t_move rfl ?_ rfl
            refine t_on rfl rfl ?_
            refine t_gtr rfl rfl ?_ rfl
            refine t_pickf rfl rfl ?_ rfl
            refine t_done ?_
            refine x_seq ?_
            refine w_if rfl ?_ ?_
            · intro hbig
              refine w_seq ?_
              refine w_region ?_
              refine t_assign rfl ?_ rfl
              refine t_assign rfl ?_ rfl
              refine t_assign rfl ?_ rfl
              refine t_done ?_
              refine x_seq ?_
              refine w_ret ?_
              refine x_then_ret ?_
              refine x_block_ret ?_
              refine x_then_ret ?_
              refine x_then_ret ?_
              refine x_block_ret ?_
              refine x_then_ret ?_
              refine x_ret3 rfl rfl rfl rfl ?_
              rw [rvK_bad hx hs' (.inr (by omega))] at hq
              exact ⟨ret_rv hr (by rw [hrv, ← hq]; rfl), ext_trans X0 B⟩
            · intro hbig
              refine w_skip ?_
              refine x_seq ?_
              refine w_seq ?_
              refine w_region ?_
              refine t_move rfl ?_ rfl
              refine t_move rfl ?_ rfl
              refine t_assign rfl ?_ rfl
              refine t_assign rfl ?_ rfl
              refine t_assign rfl ?_ rfl
              refine t_done ?_
              refine x_seq ?_
              refine w_ret ?_
              refine x_block_ret ?_
              refine x_then_ret ?_
              refine x_then_ret ?_
              refine x_block_ret ?_
              refine x_then_ret ?_
              refine x_ret3 rfl rfl rfl rfl ?_
              rw [rvK_last hx hs' (by omega)] at hq
              exact ⟨ret_rv hr (by rw [hrv, ← hq]; rfl), ext_trans X0 B⟩
        · intro hs
          refine w_skip ?_
          refine x_block_normal ?_
          refine x_seq ?_
          refine w_region ?_
          refine t_move rfl ?_ rfl
          refine t_add rfl rfl (by omega) ?_ rfl
          refine t_assign rfl ?_ rfl
          refine t_done ?_
          refine x_round (X := Nat × Nat × Int) (I := (fun x wq => (fun k i n => k ≤ 6 ∧ 0 ≤ n ∧ n < 128 ^ k ∧ rvK b (6 - k) k n i = rvK b 6 0 0 i0 ∧ Below w.heap.size w wq ∧ Sep w.heap.size wq []) x.1 x.2.1 x.2.2)) (F := (fun x => (fun k i n => [(8, I ((k : Int))), (1, I ((i : Int))), (7, I n), (0, v)]) x.1 x.2.1 x.2.2)) (μ := (fun x => (fun k i n => 6 - k) x.1 x.2.1 x.2.2)) (k + 1, i + 1, n + (((x.toNat : Int) % 128) * 128 ^ k)) ?_ (by exact ⟨rfl, rfl, rfl, rfl, trivial⟩) (by (try dsimp only); omega)
          try dsimp only
          rw [rvK_more hx (by omega)] at hq
          exact ⟨by omega, by omega, by omega, hq, B, S⟩
      · intro hge
        refine w_exit ?_
        refine x_then_exit ?_
        refine x_then_exit ?_
        refine x_block_exit ?_
        refine x_seq ?_
        refine w_seq ?_
        refine w_region ?_
        refine t_assign rfl ?_ rfl
        refine t_assign rfl ?_ rfl
        refine t_assign rfl ?_ rfl
        refine t_done ?_
        refine x_seq ?_
        refine w_ret ?_
        refine x_ret3 rfl rfl rfl rfl ?_
        rw [rvK_end (by omega)] at hq
        exact ⟨ret_rv hr (by rw [hrv, ← hq]; rfl), ext_trans X0 B⟩
    · intro hk6
      refine t_off rfl rfl rfl ?_ rfl
      refine t_off rfl rfl rfl ?_ rfl
      refine t_off rfl rfl rfl ?_ rfl
      refine t_off rfl rfl rfl ?_ rfl
      refine t_pickf rfl rfl ?_ rfl
      refine t_done ?_
      refine x_seq ?_
      refine w_no rfl ?_
      refine w_exit ?_
      refine x_then_exit ?_
      refine x_then_exit ?_
      refine x_block_exit ?_
      refine x_seq ?_
      refine w_seq ?_
      refine w_region ?_
      refine t_assign rfl ?_ rfl
      refine t_assign rfl ?_ rfl
      refine t_assign rfl ?_ rfl
      refine t_done ?_
      refine x_seq ?_
      refine w_ret ?_
      refine x_ret3 rfl rfl rfl rfl ?_
      have : 6 - k = 0 := by omega
      rw [this] at hq
      exact ⟨ret_rv hr (by rw [hrv, ← hq]; rfl), ext_trans X0 B⟩
theorem spec_ReadVarint (b : List UInt8) (v : Value) (i : Int) {n0 j0 : Int} {ok0 : Bool} (w : World) (h : SlR byteT w v b) (hz : b.length ≤ 1048576) (hi : i ≤ 9223372036854775807) (hr : rv3 (readVI b i) = (n0, j0, ok0)) : Calls Try.prog 83 #[v, I i] w fun e w' => e = .returned (.tuple #[I n0, I j0, .bool ok0]) ∧ Below w.heap.size w w' := by
  have X0 := Below.refl w.heap.size w
  refine enter Try.func83 rfl Try.ntmps83 rfl ?_
  refine w_seq ?_
  refine w_region ?_
  have S := Sep.nil w
  have B := Below.refl w.heap.size w
  have Hb := Nat.le_refl w.heap.size
  refine t_assign rfl ?_ rfl
  refine t_assign rfl ?_ rfl
  refine t_assign rfl ?_ rfl
  refine t_done ?_
  refine x_seq ?_
  refine w_seq ?_
  refine w_region ?_
  refine t_assign rfl ?_ rfl
  refine t_done ?_
  refine x_seq ?_
  refine w_seq ?_
  refine w_seq ?_
  refine w_region ?_
  refine t_assign rfl ?_ rfl
  refine t_done ?_
  refine x_seq ?_
  refine w_block ?_
  refine w_loop (X := Nat × Int) (fun x wq => (fun k n => k ≤ 6 ∧ (k = 0 ∨ 0 ≤ i) ∧ 0 ≤ n ∧ n < 128 ^ k ∧ (0 ≤ i → rvK b (6 - k) k n (i.toNat + k) = readVI b i) ∧ Below w.heap.size w wq ∧ Sep w.heap.size wq []) x.1 x.2) (fun x => (fun k n => [(8, I ((k : Int))), (7, I n), (0, v), (1, I i)]) x.1 x.2) (fun x => (fun k n => 6 - k) x.1 x.2) (0, 0) ?_ ⟨rfl, rfl, rfl, rfl, trivial⟩ ?_
  · exact ⟨by omega, .inl rfl, by simp, by simp, fun h0 => by rw [readVI, if_pos h0]; rfl, B, S⟩
  · rintro ⟨k, n⟩ w2 hI
    try dsimp only at hI ⊢
    obtain ⟨hk, hki, hn0, hn1, hq, B, S⟩ := hI
    refine w_seq ?_
    refine w_seq ?_
    refine w_region ?_
    refine t_move rfl ?_ rfl
    refine t_lss rfl rfl ?_ rfl
    refine t_done ?_
    refine x_seq ?_
    refine w_if rfl ?_ ?_
    · intro hk6
      refine w_skip ?_
      refine x_seq ?_
      refine w_seq ?_
      refine w_block ?_
      refine w_seq ?_
      refine w_seq ?_
      refine w_region ?_
      refine t_move rfl ?_ rfl
      refine t_lss rfl rfl ?_ rfl
      refine t_move rfl ?_ rfl
      refine t_partp (t := 16) rfl ?_ ?_
      · intro hneg
        refine t_off rfl rfl rfl ?_ rfl
        refine t_off rfl rfl rfl ?_ rfl
        refine t_off rfl rfl rfl ?_ rfl
        refine t_off rfl rfl rfl ?_ rfl
        refine t_off rfl rfl rfl ?_ rfl
        refine t_off rfl rfl rfl ?_ rfl
        refine t_pickt rfl rfl ?_ rfl
        refine t_done ?_
        refine x_seq ?_
        refine w_yes rfl ?_
        refine w_seq ?_
        refine w_region ?_
        refine t_assign rfl ?_ rfl
        refine t_assign rfl ?_ rfl
        refine t_assign rfl ?_ rfl
        refine t_done ?_
        refine x_seq ?_
        refine w_ret ?_
        refine x_then_ret ?_
        refine x_block_ret ?_
        refine x_then_ret ?_
        refine x_then_ret ?_
        refine x_block_ret ?_
        refine x_then_ret ?_
        refine x_ret3 rfl rfl rfl rfl ?_
        exact ⟨ret_rv hr (by rw [readVI, if_neg (by omega)]; rfl), ext_trans X0 B⟩
      · intro hneg
        have hq := hq (by omega)
        refine t_on rfl rfl ?_
        refine t_move rfl ?_ rfl
        refine t_on rfl rfl ?_
        refine t_move rfl ?_ rfl
        refine t_on rfl rfl ?_
        refine t_len e_byte (by assumption) rfl rfl ?_ rfl
        refine t_on rfl rfl ?_
        refine t_move rfl ?_ rfl
        refine t_on rfl rfl ?_
        refine t_sub rfl rfl (by omega) ?_ rfl
        refine t_on rfl rfl ?_
        refine t_geq rfl rfl ?_ rfl
        refine t_pickf rfl rfl ?_ rfl
        refine t_done ?_
        refine x_seq ?_
        refine w_if rfl ?_ ?_
        · intro hge
          refine w_seq ?_
          refine w_region ?_
          refine t_assign rfl ?_ rfl
          refine t_assign rfl ?_ rfl
          refine t_assign rfl ?_ rfl
          refine t_done ?_
          refine x_seq ?_
          refine w_ret ?_
          refine x_then_ret ?_
          refine x_block_ret ?_
          refine x_then_ret ?_
          refine x_then_ret ?_
          refine x_block_ret ?_
          refine x_then_ret ?_
          refine x_ret3 rfl rfl rfl rfl ?_
          rw [rvK_end (by omega)] at hq
          exact ⟨ret_rv hr (by rw [← hq]; rfl), ext_trans X0 B⟩
        · intro hlt
          obtain ⟨x, hx⟩ : ∃ x, b[i.toNat + k]? = some x := getx (by omega)
          have hk' : k < 6 := by omega
          have hb8 : x.toNat < 256 := x.toNat_lt
          have hm := mul128 (c := (x.toNat : Int) % 128) hk' (by omega) (by omega)
          have hp := pow128 hk'
          have hf : 6 - k = (6 - (k + 1)) + 1 := by omega
          have hp7 : (128 : Int) ^ (k + 1) = 128 ^ k * 128 := Int.pow_succ ..
          rw [hf] at hq
          refine w_skip ?_
          refine x_seq ?_
          refine w_seq ?_
          refine w_region ?_
          refine t_move rfl ?_ rfl
          refine t_move rfl ?_ rfl
          refine t_move rfl ?_ rfl
          refine t_add rfl rfl (by omega) ?_ rfl
          refine t_idx e_byte (k := (i.toNat + k)) (by assumption) hx B rfl rfl (by first | rfl | omega) ?_ rfl
          intro p28 hp28
          refine t_ldu (by assumption) ab_byte B rfl ?_ rfl
          refine t_conv8 Try.underlying5 Try.underlying3 rfl ?_ rfl
          refine t_assign rfl ?_ rfl
          refine t_done ?_
          refine x_seq ?_
          refine w_seq ?_
          refine w_region ?_
          refine t_move rfl ?_ rfl
          refine t_move rfl ?_ rfl
          refine t_and127 rfl rfl ?_ rfl
          refine t_move rfl ?_ rfl
          refine t_mul rfl rfl (by omega) ?_ rfl
          refine t_shl7 (k := k) rfl rfl (by first | rfl | omega | (rw [IntKind.wrap_u64]; omega)) (by omega) (by omega) ?_ rfl
          refine t_or7 (k := k) (c := (x.toNat : Int) % 128) rfl rfl (by omega) (by omega) (by omega) ?_ rfl
          refine t_assign rfl ?_ rfl
          refine t_done ?_
          refine x_seq ?_
          refine w_seq ?_
          refine w_region ?_
          refine t_move rfl ?_ rfl
          refine t_lss rfl rfl ?_ rfl
          refine t_done ?_
          refine x_seq ?_
          refine w_if rfl ?_ ?_
          · intro hs
            have hs' : x.toNat < 128 := by omega
            refine w_seq ?_
            refine w_seq ?_
            refine w_region ?_
            refine t_move rfl ?_ rfl
            refine t_eql rfl rfl ?_ rfl
            refine t_move rfl ?_ rfl
            refine t_partp (t := 42) rfl ?_ ?_
            · intro hx0
              refine t_on rfl rfl ?_
              refine t_move rfl ?_ rfl
              refine t_on rfl rfl ?_
              refine t_gtr rfl rfl ?_ rfl
              refine t_pickt rfl rfl ?_ rfl
              refine t_move rfl ?_ rfl
              refine t_partp (t := 46) rfl ?_ ?_
              · intro hbad
                refine t_off rfl rfl rfl ?_ rfl
                refine t_off rfl rfl rfl ?_ rfl
                refine t_pickt rfl rfl ?_ rfl
                refine t_done ?_
                refine x_seq ?_
                refine w_yes rfl ?_
                refine w_seq ?_
                refine w_region ?_
                refine t_assign rfl ?_ rfl
                refine t_assign rfl ?_ rfl
                refine t_assign rfl ?_ rfl
                refine t_done ?_
                refine x_seq ?_
                refine w_ret ?_
                refine x_then_ret ?_
                refine x_block_ret ?_
                refine x_then_ret ?_
                refine x_then_ret ?_
                refine x_block_ret ?_
                refine x_then_ret ?_
                refine x_ret3 rfl rfl rfl rfl ?_
                rw [rvK_bad hx hs' (.inl ⟨by omega, by omega⟩)] at hq
                exact ⟨ret_rv hr (by rw [← hq]; rfl), ext_trans X0 B⟩
              · intro hbad
                refine t_on rfl rfl ?_
                refine t_move rfl ?_ rfl
                refine t_on rfl rfl ?_
                refine t_gtr rfl rfl ?_ rfl
                refine t_pickf rfl rfl ?_ rfl
                refine t_done ?_
                refine x_seq ?_
                refine w_if rfl ?_ ?_
                · intro hbig
                  refine w_seq ?_
                  refine w_region ?_
                  refine t_assign rfl ?_ rfl
                  refine t_assign rfl ?_ rfl
                  refine t_assign rfl ?_ rfl
                  refine t_done ?_
                  refine x_seq ?_
                  refine w_ret ?_
                  refine x_then_ret ?_
                  refine x_block_ret ?_
                  refine x_then_ret ?_
                  refine x_then_ret ?_
                  refine x_block_ret ?_
                  refine x_then_ret ?_
                  refine x_ret3 rfl rfl rfl rfl ?_
                  rw [rvK_bad hx hs' (.inr (by omega))] at hq
                  exact ⟨ret_rv hr (by rw [← hq]; rfl), ext_trans X0 B⟩
                · intro hbig
                  refine w_skip ?_
                  refine x_seq ?_
                  refine w_seq ?_
                  refine w_region ?_
                  refine t_move rfl ?_ rfl
                  refine t_move rfl ?_ rfl
                  refine t_move rfl ?_ rfl
                  refine t_add rfl rfl (by omega) ?_ rfl
                  refine t_add rfl rfl (by omega) ?_ rfl
                  refine t_assign rfl ?_ rfl
                  refine t_assign rfl ?_ rfl
                  refine t_assign rfl ?_ rfl
                  refine t_done ?_
                  refine x_seq ?_
                  refine w_ret ?_
                  refine x_block_ret ?_
                  refine x_then_ret ?_
                  refine x_then_ret ?_
                  refine x_block_ret ?_
                  refine x_then_ret ?_
                  refine x_ret3 rfl rfl rfl rfl ?_
                  rw [rvK_last hx hs' (by omega)] at hq
                  exact ⟨ret_rv hr (by rw [← hq]; simp only [rv3]; congr 2; omega), ext_trans X0 B⟩
            · intro hx0
              refine t_off rfl rfl rfl ?_ rfl
              refine t_off rfl rfl rfl ?_ rfl
              refine t_pickf rfl rfl ?_ rfl
              refine t_move rfl ?_ rfl
              refine t_on rfl rfl ?_
              refine t_move rfl ?_ rfl
              refine t_on rfl rfl ?_
              refine t_gtr rfl rfl ?_ rfl
              refine t_pickf rfl rfl ?_ rfl
              refine t_done ?_
              refine x_seq ?_
              refine w_if rfl ?_ ?_
              · intro hbig
                refine w_seq ?_
                refine w_region ?_
                refine t_assign rfl ?_ rfl
                refine t_assign rfl ?_ rfl
                refine t_assign rfl ?_ rfl
                refine t_done ?_
                refine x_seq ?_
                refine w_ret ?_
                refine x_then_ret ?_
                refine x_block_ret ?_
                refine x_then_ret ?_
                refine x_then_ret ?_
                refine x_block_ret ?_
                refine x_then_ret ?_
                refine x_ret3 rfl rfl rfl rfl ?_
                rw [rvK_bad hx hs' (.inr (by omega))] at hq
                exact ⟨ret_rv hr (by rw [← hq]; rfl), ext_trans X0 B⟩
              · intro hbig
                refine w_skip ?_
                refine x_seq ?_
                refine w_seq ?_
                refine w_region ?_
                refine t_move rfl ?_ rfl
                refine t_move rfl ?_ rfl
                refine t_move rfl ?_ rfl
                refine t_add rfl rfl (by omega) ?_ rfl
                refine t_add rfl rfl (by omega) ?_ rfl
                refine t_assign rfl ?_ rfl
                refine t_assign rfl ?_ rfl
                refine t_assign rfl ?_ rfl
                refine t_done ?_
                refine x_seq ?_
                refine w_ret ?_
                refine x_block_ret ?_
                refine x_then_ret ?_
                refine x_then_ret ?_
                refine x_block_ret ?_
                refine x_then_ret ?_
                refine x_ret3 rfl rfl rfl rfl ?_
                rw [rvK_last hx hs' (by omega)] at hq
                exact ⟨ret_rv hr (by rw [← hq]; simp only [rv3]; congr 2; omega), ext_trans X0 B⟩
          · intro hs
            refine w_skip ?_
            refine x_block_normal ?_
            refine x_seq ?_
            refine w_region ?_
            refine t_move rfl ?_ rfl
            refine t_add rfl rfl (by omega) ?_ rfl
            refine t_assign rfl ?_ rfl
            refine t_done ?_
            refine x_round (X := Nat × Int) (I := (fun x wq => (fun k n => k ≤ 6 ∧ (k = 0 ∨ 0 ≤ i) ∧ 0 ≤ n ∧ n < 128 ^ k ∧ (0 ≤ i → rvK b (6 - k) k n (i.toNat + k) = readVI b i) ∧ Below w.heap.size w wq ∧ Sep w.heap.size wq []) x.1 x.2)) (F := (fun x => (fun k n => [(8, I ((k : Int))), (7, I n), (0, v), (1, I i)]) x.1 x.2)) (μ := (fun x => (fun k n => 6 - k) x.1 x.2)) (k + 1, n + (((x.toNat : Int) % 128) * 128 ^ k)) ?_ (by exact ⟨rfl, rfl, rfl, rfl, trivial⟩) (by (try dsimp only); omega)
            try dsimp only
            rw [rvK_more hx (by omega)] at hq
            exact ⟨by omega, by omega, by omega, by omega, fun _ => hq, B, S⟩
    · intro hk6
      refine w_exit ?_
      refine x_then_exit ?_
      refine x_then_exit ?_
      refine x_block_exit ?_
      refine x_seq ?_
      refine w_seq ?_
      refine w_region ?_
      refine t_assign rfl ?_ rfl
      refine t_assign rfl ?_ rfl
      refine t_assign rfl ?_ rfl
      refine t_done ?_
      refine x_seq ?_
      refine w_ret ?_
      refine x_ret3 rfl rfl rfl rfl ?_
      have : 6 - k = 0 := by omega
      rw [this] at hq
      exact ⟨ret_rv hr (by rw [← hq (by omega)]; rfl), ext_trans X0 B⟩
theorem rv_no {o : Option (Int × Nat)} {n j : Int} {ok : Bool} (hr : rv3 o = (n, j, ok)) (h : (!ok) = true) : o = none := by
  cases ok
  · exact rv3_false hr
  · cases h
theorem rv_yes {b : List UInt8} {i n j : Int} {ok : Bool} (hr : rv3 (readVI b i) = (n, j, ok)) (h : (!ok) = false) : readVI b i = some (n, j.toNat) ∧ 0 ≤ n ∧ n ≤ 1000000000000 ∧ i < j ∧ j ≤ b.length ∧ 0 ≤ i := by
  cases ok
  · cases h
  · obtain ⟨m, ho, rfl⟩ := rv3_true hr
    have := readVI_out ho
    exact ⟨ho, this.1, this.2.1, this.2.2.1, by have := this.2.2.2.1; show (m : Int) ≤ _; omega, this.2.2.2.2⟩
theorem dec3_true {o : Option (List Int × Nat)} {l : List Int} {j : Int} (h : dec3 o = (l, j, true)) : ∃ m : Nat, o = some (l, m) ∧ j = m := by
  rcases o with _ | ⟨a, m⟩
  · cases h
  · cases h; exact ⟨m, rfl, rfl⟩
theorem dec_no {o : Option (List Int × Nat)} {l : List Int} {j : Int} {ok : Bool} (hr : dec3 o = (l, j, ok)) (h : (!ok) = true) : o = none := by
  cases ok
  · rcases o with _ | ⟨a, m⟩
    · rfl
    · cases hr
  · cases h
theorem dec_yes {b : List UInt8} {i n j : Int} {l : List Int} {ok : Bool} (hr : dec3 (decI b i n) = (l, j, ok)) (h : (!ok) = false) : decI b i n = some (l, j.toNat) ∧ l.length = n.toNat ∧ (∀ x ∈ l, 0 ≤ x ∧ x ≤ 1000000000000) ∧ i ≤ j ∧ j ≤ b.length ∧ 0 ≤ j := by
  cases ok
  · cases h
  · obtain ⟨m, ho, rfl⟩ := dec3_true hr
    have := decI_out ho
    exact ⟨ho, this.1, this.2.1, this.2.2.1, by have := this.2.2.2; show (m : Int) ≤ _; omega, by omega⟩
theorem impl_DecodeInts (b : List UInt8) (v : Value) (i n : Int) {l0 : List Int} {j0 : Int} {ok0 : Bool} (w : World) (h : SlR byteT w v b) (hz : b.length ≤ 1048576) (hr : dec3 (decI b i n) = (l0, j0, ok0)) : Calls Try.prog 81 #[v, I i, I n] w fun e w' => ∃ v fp, e = .returned (.tuple #[v, I j0, .bool ok0]) ∧ SlO intT 3 w.heap.size w' v l0 fp ∧ Below w.heap.size w w' := by
  have X0 := Below.refl w.heap.size w
  refine enter Try.func81 rfl Try.ntmps81 rfl ?_
  refine w_seq ?_
  refine w_region ?_
  have S := Sep.nil w
  have B := Below.refl w.heap.size w
  have Hb := Nat.le_refl w.heap.size
  refine t_assign rfl ?_ rfl
  refine t_assign rfl ?_ rfl
  refine t_assign rfl ?_ rfl
  refine t_done ?_
  refine x_seq ?_
  refine w_seq ?_
  refine w_seq ?_
  refine w_region ?_
  refine t_move rfl ?_ rfl
  refine t_calls Try.call57 rfl (impl_InRange _ _ _ _) ?_ rfl rfl
  refine t_notb rfl ?_ rfl
  refine t_move rfl ?_ rfl
  refine t_part (t := 17) rfl ?_ ?_
  · intro h1
    refine t_off rfl rfl rfl ?_ rfl
    refine t_off rfl rfl rfl ?_ rfl
    refine t_off rfl rfl rfl ?_ rfl
    refine t_off rfl rfl rfl ?_ rfl
    refine t_off rfl rfl rfl ?_ rfl
    refine t_pickt rfl rfl ?_ rfl
    refine t_done ?_
    refine x_seq ?_
    refine w_yes rfl ?_
    refine w_seq ?_
    refine w_region ?_
    refine t_assign rfl ?_ rfl
    refine t_assign rfl ?_ rfl
    refine t_assign rfl ?_ rfl
    refine t_done ?_
    refine x_seq ?_
    refine w_ret ?_
    refine x_then_ret ?_
    refine x_ret3 rfl rfl rfl rfl ?_
    rw [decI, show inR n 0 100 = false by simpa using h1] at hr
    cases hr
    obtain ⟨fp, hO⟩ := (S.addNil.mono X0.size).head
    exact ⟨_, fp, rfl, hO, ext_trans X0 B⟩
  intro h1
  have h1' : inR n 0 100 = true := by simpa using h1
  have r1 := inR_iff.1 h1'
  refine t_on rfl rfl ?_
  refine t_move rfl ?_ rfl
  refine t_on rfl rfl ?_
  refine t_move rfl ?_ rfl
  refine t_on rfl rfl ?_
  refine t_len e_byte (by assumption) rfl rfl ?_ rfl
  refine t_on rfl rfl ?_
  refine t_calls Try.call57 rfl (impl_InRange _ _ _ _) ?_ rfl rfl
  refine t_on rfl rfl ?_
  refine t_notb rfl ?_ rfl
  refine t_pickf rfl rfl ?_ rfl
  refine t_done ?_
  refine x_seq ?_
  refine w_ifb rfl ?_ ?_
  · intro h2
    refine w_seq ?_
    refine w_region ?_
    refine t_assign rfl ?_ rfl
    refine t_assign rfl ?_ rfl
    refine t_assign rfl ?_ rfl
    refine t_done ?_
    refine x_seq ?_
    refine w_ret ?_
    refine x_then_ret ?_
    refine x_ret3 rfl rfl rfl rfl ?_
    rw [decI, h1', show inR i 0 b.length = false by simpa using h2] at hr
    cases hr
    obtain ⟨fp, hO⟩ := (S.addNil.mono X0.size).head
    exact ⟨_, fp, rfl, hO, ext_trans X0 B⟩
  intro h2
  have h2' : inR i 0 b.length = true := by simpa using h2
  have r2 := inR_iff.1 h2'
  have hd : decI b i n = decA b n.toNat i.toNat [] := by rw [decI, h1', h2']; rfl
  refine w_skip ?_
  refine x_seq ?_
  refine w_seq ?_
  refine w_region ?_
  refine t_assign rfl ?_ rfl
  refine t_done ?_
  refine x_seq ?_
  refine w_seq ?_
  refine w_seq ?_
  refine w_region ?_
  refine t_assign rfl ?_ rfl
  refine t_done ?_
  refine x_seq ?_
  refine w_block ?_
  refine w_loop (X := Nat × Int × List Int × Value) (fun x wq => (fun k q acc u => k ≤ n.toNat ∧ (0 : Int) ≤ q ∧ q ≤ b.length ∧ acc.length = k ∧ decA b (n.toNat - k) q.toNat acc = decA b n.toNat i.toNat [] ∧ Below w.heap.size w wq ∧ Sep w.heap.size wq [slO intT 3 u acc]) x.1 x.2.1 x.2.2.1 x.2.2.2) (fun x => (fun k q acc u => [(10, I ((k : Int))), (1, I q), (9, u), (0, v), (2, I n)]) x.1 x.2.1 x.2.2.1 x.2.2.2) (fun x => (fun k q acc u => n.toNat - k) x.1 x.2.1 x.2.2.1 x.2.2.2) (0, i, [], .slice none 0 0) ?_ ⟨rfl, rfl, rfl, rfl, rfl, trivial⟩ ?_
  · exact ⟨by omega, (by show (0 : Int) ≤ i; omega), (by show i ≤ _; omega), rfl, rfl, B, S.addNil⟩
  · rintro ⟨k, q, acc, u⟩ w3 hI
    try dsimp only at hI ⊢
    obtain ⟨hk, hq0, hq1, hal, hq, B, S⟩ := hI
    refine w_seq ?_
    refine w_seq ?_
    refine w_region ?_
    refine t_move rfl ?_ rfl
    refine t_move rfl ?_ rfl
    refine t_lss rfl rfl ?_ rfl
    refine t_done ?_
    refine x_seq ?_
    refine w_if rfl ?_ ?_
    · intro hlt
      have hf : n.toNat - k = (n.toNat - (k + 1)) + 1 := by omega
      rw [hf] at hq
      obtain ⟨x1, j1, ok1, hr1⟩ : ∃ x j ok, rv3 (readVI b q) = (x, j, ok) := ⟨_, _, _, rfl⟩
      have hrq : readVI b q = readV b q.toNat := by rw [readVI, if_pos hq0]
      refine w_skip ?_
      refine x_seq ?_
      refine w_seq ?_
      refine w_block ?_
      refine w_seq ?_
      refine w_region ?_
      refine t_move rfl ?_ rfl
      refine t_move rfl ?_ rfl
      refine t_callx Try.call80 rfl (impl_ReadVarint _ _ _ _ (by first | assumption | exact SlR.below (by assumption) B) (by omega) (by omega) hr1) ?_ rfl rfl
      intro w4 x5
      have B := bx Hb B x5
      have S := S.below x5
      refine t_move rfl ?_ rfl
      refine t_extract rfl rfl ?_ rfl
      refine t_extract rfl rfl ?_ rfl
      refine t_extract rfl rfl ?_ rfl
      refine t_assign rfl ?_ rfl
      refine t_assign rfl ?_ rfl
      refine t_assign rfl ?_ rfl
      refine t_done ?_
      refine x_seq ?_
      refine w_seq ?_
      refine w_seq ?_
      refine w_region ?_
      refine t_move rfl ?_ rfl
      refine t_notb rfl ?_ rfl
      refine t_done ?_
      refine x_seq ?_
      refine w_ifb rfl ?_ ?_
      · intro hno
        refine w_seq ?_
        refine w_region ?_
        refine t_assign rfl ?_ rfl
        refine t_assign rfl ?_ rfl
        refine t_assign rfl ?_ rfl
        refine t_done ?_
        refine x_seq ?_
        refine w_ret ?_
        refine x_then_ret ?_
        refine x_block_ret ?_
        refine x_then_ret ?_
        refine x_then_ret ?_
        refine x_block_ret ?_
        refine x_then_ret ?_
        refine x_ret3 rfl rfl rfl rfl ?_
        have hno' := rv_no hr1 hno
        rw [hrq] at hno'
        rw [decA_no hno'] at hq
        rw [hd, ← hq] at hr
        cases hr
        obtain ⟨fp, hO⟩ := (S.addNil.mono X0.size).head
        exact ⟨_, fp, rfl, hO, ext_trans X0 B⟩
      · intro hyes
        obtain ⟨hy1, hy2, hy3, hy4, hy5, hy6⟩ := rv_yes hr1 hyes
        rw [hrq] at hy1
        rw [decA_yes hy1] at hq
        refine w_skip ?_
        refine x_seq ?_
        refine w_seq ?_
        refine w_region ?_
        refine t_move rfl ?_ rfl
        refine t_move rfl ?_ rfl
        refine t_lit (T := intT) (l := [x1]) (css := ([x1]).map fun a => [I a]) int_flat S (fun w => bs_int1 _ w) rfl rfl rfl rfl (by simp [maxLen]) (litR_int _) ?_ rfl rfl
        intro u40 w6 x7 S
        have B := bx Hb B x7
        have hR := S.sl
        have S := S.f1
        refine t_cat int_flat e_int S hR rfl rfl rfl (by first | omega | (simp [-List.length_flatMap]; omega)) (by (simp [maxLen, -List.length_flatMap]; try omega)) ?_ rfl
        intro v41 w8 x9 S
        have B := B.trans x9
        clear hR
        have S := S.f1
        have S := S.tail
        refine t_assign rfl ?_ rfl
        refine t_done ?_
        refine x_seq ?_
        refine w_region ?_
        refine t_move rfl ?_ rfl
        refine t_assign rfl ?_ rfl
        refine t_done ?_
        refine x_block_normal ?_
        refine x_seq ?_
        refine w_region ?_
        refine t_move rfl ?_ rfl
        refine t_add rfl rfl (by omega) ?_ rfl
        refine t_assign rfl ?_ rfl
        refine t_done ?_
        refine x_round (X := Nat × Int × List Int × Value) (I := (fun x wq => (fun k q acc u => k ≤ n.toNat ∧ (0 : Int) ≤ q ∧ q ≤ b.length ∧ acc.length = k ∧ decA b (n.toNat - k) q.toNat acc = decA b n.toNat i.toNat [] ∧ Below w.heap.size w wq ∧ Sep w.heap.size wq [slO intT 3 u acc]) x.1 x.2.1 x.2.2.1 x.2.2.2)) (F := (fun x => (fun k q acc u => [(10, I ((k : Int))), (1, I q), (9, u), (0, v), (2, I n)]) x.1 x.2.1 x.2.2.1 x.2.2.2)) (μ := (fun x => (fun k q acc u => n.toNat - k) x.1 x.2.1 x.2.2.1 x.2.2.2)) (k + 1, j1, acc ++ [x1], v41) ?_ (by exact ⟨rfl, rfl, rfl, rfl, rfl, trivial⟩) (by (try dsimp only); omega)
        try dsimp only
        exact ⟨by omega, by omega, by omega, by rw [List.length_append, hal]; rfl, hq, B, S⟩
    · intro hge
      refine w_exit ?_
      refine x_then_exit ?_
      refine x_then_exit ?_
      refine x_block_exit ?_
      refine x_seq ?_
      refine w_seq ?_
      refine w_region ?_
      refine t_move rfl ?_ rfl
      refine t_move rfl ?_ rfl
      refine t_assign rfl ?_ rfl
      refine t_assign rfl ?_ rfl
      refine t_assign rfl ?_ rfl
      refine t_done ?_
      refine x_seq ?_
      refine w_ret ?_
      refine x_ret3 rfl rfl rfl rfl ?_
      have : n.toNat - k = 0 := by omega
      rw [this] at hq
      rw [hd, ← hq] at hr
      have e0 : (l0, j0, ok0) = (acc, q, true) := by rw [← hr]; simp only [decA, dec3]; congr 2; omega
      cases e0
      obtain ⟨fp, hO⟩ := (S.mono X0.size).head
      exact ⟨_, fp, rfl, hO, ext_trans X0 B⟩
theorem spec_DecodeInts (b : List UInt8) (v : Value) (i n : Int) {l0 : List Int} {j0 : Int} {ok0 : Bool} (w : World) (h : SlR byteT w v b) (hz : b.length ≤ 1048576) (hr : dec3 (decI b i n) = (l0, j0, ok0)) : Calls Try.prog 84 #[v, I i, I n] w fun e w' => ∃ v fp, e = .returned (.tuple #[v, I j0, .bool ok0]) ∧ SlO intT 3 w.heap.size w' v l0 fp ∧ Below w.heap.size w w' := by
  have X0 := Below.refl w.heap.size w
  refine enter Try.func84 rfl Try.ntmps84 rfl ?_
  refine w_seq ?_
  refine w_region ?_
  have S := Sep.nil w
  have B := Below.refl w.heap.size w
  have Hb := Nat.le_refl w.heap.size
  refine t_assign rfl ?_ rfl
  refine t_assign rfl ?_ rfl
  refine t_assign rfl ?_ rfl
  refine t_done ?_
  refine x_seq ?_
  refine w_seq ?_
  refine w_region ?_
  refine t_lit (T := intT) (css := []) (l := []) int_flat S bs_int0 rfl rfl rfl rfl (Nat.zero_le _) litR_nil ?_ rfl rfl
  intro u14 w10 x11 S
  have B := bx Hb B x11
  refine t_assign rfl ?_ rfl
  refine t_done ?_
  refine x_seq ?_
  refine w_seq ?_
  refine w_seq ?_
  refine w_region ?_
  refine t_move rfl ?_ rfl
  refine t_calls Try.call54 rfl (spec_l1In _ _ _ _) ?_ rfl rfl
  refine t_notb rfl ?_ rfl
  refine t_move rfl ?_ rfl
  refine t_part (t := 18) rfl ?_ ?_
  · intro h1
    refine t_off rfl rfl rfl ?_ rfl
    refine t_off rfl rfl rfl ?_ rfl
    refine t_off rfl rfl rfl ?_ rfl
    refine t_off rfl rfl rfl ?_ rfl
    refine t_off rfl rfl rfl ?_ rfl
    refine t_pickt rfl rfl ?_ rfl
    refine t_done ?_
    refine x_seq ?_
    refine w_yes rfl ?_
    refine w_seq ?_
    refine w_region ?_
    refine t_move rfl ?_ rfl
    refine t_assign rfl ?_ rfl
    refine t_assign rfl ?_ rfl
    refine t_assign rfl ?_ rfl
    refine t_done ?_
    refine x_seq ?_
    refine w_ret ?_
    refine x_then_ret ?_
    refine x_ret3 rfl rfl rfl rfl ?_
    rw [decI, show inR n 0 100 = false by simpa using h1] at hr
    cases hr
    obtain ⟨fp, hO⟩ := (S.mono X0.size).head
    exact ⟨_, fp, rfl, hO, ext_trans X0 B⟩
  intro h1
  have h1' : inR n 0 100 = true := by simpa using h1
  have r1 := inR_iff.1 h1'
  refine t_on rfl rfl ?_
  refine t_move rfl ?_ rfl
  refine t_on rfl rfl ?_
  refine t_move rfl ?_ rfl
  refine t_on rfl rfl ?_
  refine t_len e_byte (by assumption) rfl rfl ?_ rfl
  refine t_on rfl rfl ?_
  refine t_calls Try.call54 rfl (spec_l1In _ _ _ _) ?_ rfl rfl
  refine t_on rfl rfl ?_
  refine t_notb rfl ?_ rfl
  refine t_pickf rfl rfl ?_ rfl
  refine t_done ?_
  refine x_seq ?_
  refine w_ifb rfl ?_ ?_
  · intro h2
    refine w_seq ?_
    refine w_region ?_
    refine t_move rfl ?_ rfl
    refine t_assign rfl ?_ rfl
    refine t_assign rfl ?_ rfl
    refine t_assign rfl ?_ rfl
    refine t_done ?_
    refine x_seq ?_
    refine w_ret ?_
    refine x_then_ret ?_
    refine x_ret3 rfl rfl rfl rfl ?_
    rw [decI, h1', show inR i 0 b.length = false by simpa using h2] at hr
    cases hr
    obtain ⟨fp, hO⟩ := (S.mono X0.size).head
    exact ⟨_, fp, rfl, hO, ext_trans X0 B⟩
  intro h2
  have h2' : inR i 0 b.length = true := by simpa using h2
  have r2 := inR_iff.1 h2'
  have hd : decI b i n = decA b n.toNat i.toNat [] := by rw [decI, h1', h2']; rfl
  refine w_skip ?_
  refine x_seq ?_
  refine w_seq ?_
  refine w_seq ?_
  refine w_region ?_
  refine t_assign rfl ?_ rfl
  refine t_done ?_
  refine x_seq ?_
  refine w_block ?_
  refine w_loop (X := Nat × Int × List Int × Value) (fun x wq => (fun k q acc u => k ≤ n.toNat ∧ (0 : Int) ≤ q ∧ q ≤ b.length ∧ acc.length = k ∧ decA b (n.toNat - k) q.toNat acc = decA b n.toNat i.toNat [] ∧ Below w.heap.size w wq ∧ Sep w.heap.size wq [slO intT 3 u acc]) x.1 x.2.1 x.2.2.1 x.2.2.2) (fun x => (fun k q acc u => [(10, I ((k : Int))), (1, I q), (9, u), (0, v), (2, I n)]) x.1 x.2.1 x.2.2.1 x.2.2.2) (fun x => (fun k q acc u => n.toNat - k) x.1 x.2.1 x.2.2.1 x.2.2.2) (0, i, [], u14) ?_ ⟨rfl, rfl, rfl, rfl, rfl, trivial⟩ ?_
  · exact ⟨by omega, (by show (0 : Int) ≤ i; omega), (by show i ≤ _; omega), rfl, rfl, B, S⟩
  · rintro ⟨k, q, acc, u⟩ w12 hI
    try dsimp only at hI ⊢
    obtain ⟨hk, hq0, hq1, hal, hq, B, S⟩ := hI
    refine w_seq ?_
    refine w_seq ?_
    refine w_region ?_
    refine t_move rfl ?_ rfl
    refine t_move rfl ?_ rfl
    refine t_lss rfl rfl ?_ rfl
    refine t_done ?_
    refine x_seq ?_
    refine w_if rfl ?_ ?_
    · intro hlt
      have hf : n.toNat - k = (n.toNat - (k + 1)) + 1 := by omega
      rw [hf] at hq
      obtain ⟨x1, j1, ok1, hr1⟩ : ∃ x j ok, rv3 (readVI b q) = (x, j, ok) := ⟨_, _, _, rfl⟩
      have hrq : readVI b q = readV b q.toNat := by rw [readVI, if_pos hq0]
      refine w_skip ?_
      refine x_seq ?_
      refine w_seq ?_
      refine w_block ?_
      refine w_seq ?_
      refine w_region ?_
      refine t_move rfl ?_ rfl
      refine t_move rfl ?_ rfl
      refine t_callx Try.call83 rfl (spec_ReadVarint _ _ _ _ (by first | assumption | exact SlR.below (by assumption) B) (by omega) (by omega) hr1) ?_ rfl rfl
      intro w13 x14
      have B := bx Hb B x14
      have S := S.below x14
      refine t_move rfl ?_ rfl
      refine t_extract rfl rfl ?_ rfl
      refine t_extract rfl rfl ?_ rfl
      refine t_extract rfl rfl ?_ rfl
      refine t_assign rfl ?_ rfl
      refine t_assign rfl ?_ rfl
      refine t_assign rfl ?_ rfl
      refine t_done ?_
      refine x_seq ?_
      refine w_seq ?_
      refine w_seq ?_
      refine w_region ?_
      refine t_move rfl ?_ rfl
      refine t_notb rfl ?_ rfl
      refine t_done ?_
      refine x_seq ?_
      refine w_ifb rfl ?_ ?_
      · intro hno
        refine w_seq ?_
        refine w_region ?_
        refine t_lit (T := intT) (css := []) (l := []) int_flat S bs_int0 rfl rfl rfl rfl (Nat.zero_le _) litR_nil ?_ rfl rfl
        intro u40 w15 x16 S
        have B := bx Hb B x16
        refine t_assign rfl ?_ rfl
        refine t_assign rfl ?_ rfl
        refine t_assign rfl ?_ rfl
        refine t_done ?_
        refine x_seq ?_
        refine w_ret ?_
        refine x_then_ret ?_
        refine x_block_ret ?_
        refine x_then_ret ?_
        refine x_then_ret ?_
        refine x_block_ret ?_
        refine x_then_ret ?_
        refine x_ret3 rfl rfl rfl rfl ?_
        have hno' := rv_no hr1 hno
        rw [hrq] at hno'
        rw [decA_no hno'] at hq
        rw [hd, ← hq] at hr
        cases hr
        obtain ⟨fp, hO⟩ := (S.mono X0.size).head
        exact ⟨_, fp, rfl, hO, ext_trans X0 B⟩
      · intro hyes
        obtain ⟨hy1, hy2, hy3, hy4, hy5, hy6⟩ := rv_yes hr1 hyes
        rw [hrq] at hy1
        rw [decA_yes hy1] at hq
        refine w_skip ?_
        refine x_seq ?_
        refine w_seq ?_
        refine w_region ?_
        refine t_move rfl ?_ rfl
        refine t_move rfl ?_ rfl
        refine t_lit (T := intT) (l := [x1]) (css := ([x1]).map fun a => [I a]) int_flat S (fun w => bs_int1 _ w) rfl rfl rfl rfl (by simp [maxLen]) (litR_int _) ?_ rfl rfl
        intro u43 w17 x18 S
        have B := bx Hb B x18
        have hR := S.sl
        have S := S.f1
        refine t_cat int_flat e_int S hR rfl rfl rfl (by first | omega | (simp [-List.length_flatMap]; omega)) (by (simp [maxLen, -List.length_flatMap]; try omega)) ?_ rfl
        intro v44 w19 x20 S
        have B := B.trans x20
        clear hR
        have S := S.f1
        have S := S.tail
        refine t_assign rfl ?_ rfl
        refine t_done ?_
        refine x_seq ?_
        refine w_region ?_
        refine t_move rfl ?_ rfl
        refine t_assign rfl ?_ rfl
        refine t_done ?_
        refine x_block_normal ?_
        refine x_seq ?_
        refine w_region ?_
        refine t_move rfl ?_ rfl
        refine t_add rfl rfl (by omega) ?_ rfl
        refine t_assign rfl ?_ rfl
        refine t_done ?_
        refine x_round (X := Nat × Int × List Int × Value) (I := (fun x wq => (fun k q acc u => k ≤ n.toNat ∧ (0 : Int) ≤ q ∧ q ≤ b.length ∧ acc.length = k ∧ decA b (n.toNat - k) q.toNat acc = decA b n.toNat i.toNat [] ∧ Below w.heap.size w wq ∧ Sep w.heap.size wq [slO intT 3 u acc]) x.1 x.2.1 x.2.2.1 x.2.2.2)) (F := (fun x => (fun k q acc u => [(10, I ((k : Int))), (1, I q), (9, u), (0, v), (2, I n)]) x.1 x.2.1 x.2.2.1 x.2.2.2)) (μ := (fun x => (fun k q acc u => n.toNat - k) x.1 x.2.1 x.2.2.1 x.2.2.2)) (k + 1, j1, acc ++ [x1], v44) ?_ (by exact ⟨rfl, rfl, rfl, rfl, rfl, trivial⟩) (by (try dsimp only); omega)
        try dsimp only
        exact ⟨by omega, by omega, by omega, by rw [List.length_append, hal]; rfl, hq, B, S⟩
    · intro hge
      refine w_exit ?_
      refine x_then_exit ?_
      refine x_then_exit ?_
      refine x_block_exit ?_
      refine x_seq ?_
      refine w_seq ?_
      refine w_region ?_
      refine t_move rfl ?_ rfl
      refine t_move rfl ?_ rfl
      refine t_assign rfl ?_ rfl
      refine t_assign rfl ?_ rfl
      refine t_assign rfl ?_ rfl
      refine t_done ?_
      refine x_seq ?_
      refine w_ret ?_
      refine x_ret3 rfl rfl rfl rfl ?_
      have : n.toNat - k = 0 := by omega
      rw [this] at hq
      rw [hd, ← hq] at hr
      have e0 : (l0, j0, ok0) = (acc, q, true) := by rw [← hr]; simp only [decA, dec3]; congr 2; omega
      cases e0
      obtain ⟨fp, hO⟩ := (S.mono X0.size).head
      exact ⟨_, fp, rfl, hO, ext_trans X0 B⟩
end Go.Proofs.Ytdaecknfahgddaa
namespace Go.Proofs.Ytdaecknfahgddaa
open Go.RowKit
set_option linter.unusedVariables false
set_option maxRecDepth 20000
/-- The cursor's bytes can be read as_ long as_ nothing below b changes. -/
def CodeK (b : Nat) (w : World) (v : Value) (n : Nat) : Prop := n ≤ 1048576 ∧ ∃ code : List UInt8, code.length = n ∧ ∀ w', Below b w w' → SlR byteT w' v code
theorem CodeK.below {b : Nat} {w w' : World} {v : Value} {n : Nat} (K : CodeK b w v n) (B : Below b w w') : CodeK b w' v n := by
  obtain ⟨h, code, h1, h2⟩ := K
  exact ⟨h, code, h1, fun w'' x => h2 w'' (B.trans x)⟩
theorem CodeK.of {w : World} {v : Value} {code : List UInt8} (h : SlR byteT w v code) (hz : code.length ≤ 1048576) : CodeK w.heap.size w v code.length := ⟨hz, code, rfl, fun w' x => h.below x⟩
section
variable {P : Program} {n : Nat} {ops : Array Oper} {Q : Exit → Act → World → Prop} {L : Frm} {w : World} {m : Md} {r : IT} {d : Nat} {ty : TypeId} {pos : String} {af : Array Edge}
theorem t_nilc {x : Operand} {p : Addr} (hx : ev L x = some (.pointer (some p))) (k : WT P n ops Q r ((d, .pointer (some p)) :: L) w) (hn : Nat.blt d n = true) : WT P n ops Q (.st m ⟨some d, .nilCheck x, ty, pos, af, none⟩ r) L w :=
  t_read (fun e ha _ _ _ w' _ => by simp [execOp, ha.ev hx]) k hn
end
theorem fb_cur_0 : fieldB Try.prog 109 0 = some 0 := by kernel_rfl
theorem fb_cur_1 : fieldB Try.prog 109 1 = some 1 := by kernel_rfl
theorem fb_cur_2 : fieldB Try.prog 109 2 = some 2 := by kernel_rfl
theorem b_cur (A : Option Addr) (n c : Nat) (h : Int) (w : World) : (Instr.build 109 #[(0, .slice A n c), (2, I h)]).run Try.prog w = .ok (.agg #[.slice A n c, I 0, I h]) w := by kernel_rfl
theorem spec_l1Byte {b n c : Nat} {w : World} {v : Value} {os : List Ow} (S : Sep b w (curO v n c 109 :: os)) (K : CodeK b w v n) : Calls Try.prog 111 #[.pointer (some ⟨c, 0, none⟩)] w fun e w' => ∃ x : Int, e = .returned (I x) ∧ (0 ≤ x ∧ x < 256) ∧ Sep b w' (curO v n c 109 :: os) ∧ Below b w w' := by
  obtain ⟨hz, code, rfl, hK⟩ := K
  obtain ⟨i, h, hi0, hin, S⟩ := S.curOpen
  have X0 := Below.refl w.heap.size w
  refine enter Try.func111 rfl Try.ntmps111 rfl ?_
  have B := Below.refl b w
  have Hb := S.base
  refine w_seq ?_
  refine w_region ?_
  refine t_assign rfl ?_ rfl
  refine t_done ?_
  refine x_seq ?_
  refine w_seq ?_
  refine w_region ?_
  refine t_move rfl ?_ rfl
  refine t_move rfl ?_ rfl
  refine t_nilc rfl ?_ rfl
  refine t_fldx fb_cur_2 rfl rfl ?_ rfl
  refine t_bx1 S.box ab_int rfl rfl ?_ rfl
  refine t_mulw rfl rfl ?_ rfl
  refine t_addw rfl rfl ?_ rfl
  refine t_nilc rfl ?_ rfl
  refine t_fldx fb_cur_2 rfl rfl ?_ rfl
  refine t_st1 S sb_int rfl rfl rfl rfl rfl ?_
  intro w1 b2 S
  have B := B.trans b2
  refine t_done ?_
  refine x_seq ?_
  refine w_seq ?_
  refine w_draw (.st .take 0 (.st .take 1 (.st .take 2 (.st .take 3 (.st .take 4 (.st .take 5 (.st .take 6 (.st .take 7 (.st .take 8 (.st .take 9 (.st .take 10 (.st .take 11 (.st .take 12 .done))))))))))))) mixed (by kernel_rfl) ?_
  intro w3 x4
  have B := bx Hb B x4
  have S := S.below x4
  refine t_move rfl ?_ rfl
  refine t_nilc rfl ?_ rfl
  refine t_fldx fb_cur_2 rfl rfl ?_ rfl
  refine t_bx1 S.box ab_int rfl rfl ?_ rfl
  refine t_shrA rfl rfl (by decide) ?_ rfl
  intro z17
  refine t_move rfl ?_ rfl
  refine t_nilc rfl ?_ rfl
  refine t_fldx fb_cur_2 rfl rfl ?_ rfl
  refine t_bx1 S.box ab_int rfl rfl ?_ rfl
  refine t_shrA rfl rfl (by decide) ?_ rfl
  intro z22
  refine t_bitA (by simp) rfl rfl ?_ rfl
  intro z23
  refine t_and255 rfl rfl ?_ rfl
  refine t_assign rfl ?_ rfl
  refine t_done' ?_
  refine x_seq ?_
  refine w_seq ?_
  refine w_seq ?_
  refine w_draw (.st .take 0 (.st .take 1 (.st .take 2 (.st .take 3 (.st .take 4 (.st .take 5 (.st .take 6 (.st .take 7 (.st .take 8 (.st .take 9 .done)))))))))) mixed (by kernel_rfl) ?_
  intro w5 x6
  have B := bx Hb B x6
  have S := S.below x6
  refine t_move rfl ?_ rfl
  refine t_nilc rfl ?_ rfl
  refine t_fldx fb_cur_1 rfl rfl ?_ rfl
  refine t_bx1 S.box ab_int rfl rfl ?_ rfl
  refine t_move rfl ?_ rfl
  refine t_nilc rfl ?_ rfl
  refine t_fldx fb_cur_0 rfl rfl ?_ rfl
  refine t_bx1 S.box ab_s_byte rfl rfl ?_ rfl
  refine t_len e_byte (hK _ B) rfl rfl ?_ rfl
  refine t_lss rfl rfl ?_ rfl
  refine t_done' ?_
  refine x_seq ?_
  refine w_if rfl ?_ ?_
  · intro hc
    refine w_seq ?_
    refine w_draw (.st .take 0 (.st .take 1 (.st .take 2 (.st .take 3 (.st .take 4 (.st .take 5 (.st .take 6 (.st .take 7 (.st .take 8 (.st .take 9 (.st .take 10 (.st .take 11 (.st .take 12 (.st .take 13 (.st .take 14 .done))))))))))))))) mixed (by kernel_rfl) ?_
    intro w7 x8
    have B := bx Hb B x8
    have S := S.below x8
    refine t_move rfl ?_ rfl
    refine t_move rfl ?_ rfl
    refine t_nilc rfl ?_ rfl
    refine t_fldx fb_cur_0 rfl rfl ?_ rfl
    refine t_bx1 S.box ab_s_byte rfl rfl ?_ rfl
    refine t_move rfl ?_ rfl
    refine t_nilc rfl ?_ rfl
    refine t_fldx fb_cur_1 rfl rfl ?_ rfl
    refine t_bx1 S.box ab_int rfl rfl ?_ rfl
    obtain ⟨e44, he44⟩ : ∃ e, (code)[i.toNat]? = some e := getx (by omega)
    refine t_idx e_byte (k := i.toNat) (hK _ B) he44 (Below.refl _ _) rfl rfl (by first | rfl | omega) ?_ rfl
    intro p44 hp44
    refine t_ldu (by assumption) ab_byte (Below.refl _ _) rfl ?_ rfl
    refine t_conv8 Try.underlying5 Try.underlying3 rfl ?_ rfl
    refine t_addw rfl rfl ?_ rfl
    refine t_and255 rfl rfl ?_ rfl
    refine t_assign rfl ?_ rfl
    refine t_done' ?_
    refine x_seq ?_
    refine w_region ?_
    refine t_move rfl ?_ rfl
    refine t_move rfl ?_ rfl
    refine t_nilc rfl ?_ rfl
    refine t_fldx fb_cur_1 rfl rfl ?_ rfl
    refine t_bx1 S.box ab_int rfl rfl ?_ rfl
    refine t_add rfl rfl (by omega) ?_ rfl
    refine t_nilc rfl ?_ rfl
    refine t_fldx fb_cur_1 rfl rfl ?_ rfl
    refine t_st1 S sb_int rfl rfl rfl rfl rfl ?_
    intro w9 b10 S
    have B := B.trans b10
    refine t_done ?_
    refine x_seq ?_
    refine w_seq ?_
    refine w_region ?_
    refine t_move rfl ?_ rfl
    refine t_assign rfl ?_ rfl
    refine t_done ?_
    refine x_seq ?_
    refine w_ret ?_
    refine x_ret1 rfl rfl ?_
    exact ⟨_, rfl, ⟨by omega, by omega⟩, S.curShut (by omega) (by omega), B⟩
  · intro hc
    refine w_skip ?_
    refine x_seq ?_
    refine w_seq ?_
    refine w_region ?_
    refine t_move rfl ?_ rfl
    refine t_assign rfl ?_ rfl
    refine t_done ?_
    refine x_seq ?_
    refine w_ret ?_
    refine x_ret1 rfl rfl ?_
    exact ⟨_, rfl, ⟨by omega, by omega⟩, S.curShut (by omega) (by omega), B⟩
theorem spec_l1Below {b n c : Nat} {w : World} {v : Value} {os : List Ow} (m : Int) (S : Sep b w (curO v n c 109 :: os)) (K : CodeK b w v n) : Calls Try.prog 64 #[.pointer (some ⟨c, 0, none⟩), I m] w fun e w' => ∃ x : Int, e = .returned (I x) ∧ (0 ≤ x ∧ (x < m ∨ x = 0)) ∧ Sep b w' (curO v n c 109 :: os) ∧ Below b w w' := by
  have X0 := Below.refl w.heap.size w
  refine enter Try.func64 rfl Try.ntmps64 rfl ?_
  have B := Below.refl b w
  have Hb := S.base
  refine w_seq ?_
  refine w_region ?_
  refine t_assign rfl ?_ rfl
  refine t_done ?_
  refine x_seq ?_
  refine w_seq ?_
  refine w_seq ?_
  refine w_region ?_
  refine t_move rfl ?_ rfl
  refine t_leq rfl rfl ?_ rfl
  refine t_done ?_
  refine x_seq ?_
  refine w_if rfl ?_ ?_
  · intro hc
    refine w_seq ?_
    refine w_region ?_
    refine t_assign rfl ?_ rfl
    refine t_done ?_
    refine x_seq ?_
    refine w_ret ?_
    refine x_then_ret ?_
    refine x_ret1 rfl rfl ?_
    exact ⟨_, rfl, ⟨by omega, by omega⟩, S, B⟩
  · intro hc
    refine w_skip ?_
    refine x_seq ?_
    refine w_seq ?_
    refine w_seq ?_
    refine w_region ?_
    refine t_move rfl ?_ rfl
    refine t_leq rfl rfl ?_ rfl
    refine t_done ?_
    refine x_seq ?_
    refine w_if rfl ?_ ?_
    · intro hc2
      refine w_seq ?_
      refine w_region ?_
      refine t_move rfl ?_ rfl
      refine t_callf Try.call111 rfl (spec_l1Byte S (K.below B)) ?_ rfl
      rintro e w11 ⟨y13, rfl, hf13, S, x12⟩
      refine ⟨_, rfl, ?_⟩
      have B := B.trans x12
      refine t_move rfl ?_ rfl
      refine t_rem rfl rfl (by omega) ?_ rfl
      refine t_assign rfl ?_ rfl
      refine t_done ?_
      refine x_seq ?_
      refine w_ret ?_
      refine x_then_ret ?_
      refine x_ret1 rfl rfl ?_
      exact ⟨_, rfl, ⟨Int.emod_nonneg _ (by omega), .inl (Int.emod_lt_of_pos _ (by omega))⟩, S, B⟩
    · intro hc2
      refine w_skip ?_
      refine x_seq ?_
      refine w_seq ?_
      refine w_region ?_
      refine t_move rfl ?_ rfl
      refine t_callf Try.call111 rfl (spec_l1Byte S (K.below B)) ?_ rfl
      rintro e w13 ⟨y17, rfl, hf17, S, x14⟩
      refine ⟨_, rfl, ?_⟩
      have B := B.trans x14
      refine t_assign rfl ?_ rfl
      refine t_done ?_
      refine x_seq ?_
      refine w_seq ?_
      refine w_region ?_
      refine t_move rfl ?_ rfl
      refine t_callf Try.call111 rfl (spec_l1Byte S (K.below B)) ?_ rfl
      rintro e w15 ⟨y19, rfl, hf19, S, x16⟩
      refine ⟨_, rfl, ?_⟩
      have B := B.trans x16
      refine t_assign rfl ?_ rfl
      refine t_done ?_
      refine x_seq ?_
      refine w_seq ?_
      refine w_region ?_
      refine t_move rfl ?_ rfl
      refine t_callf Try.call111 rfl (spec_l1Byte S (K.below B)) ?_ rfl
      rintro e w17 ⟨y21, rfl, hf21, S, x18⟩
      refine ⟨_, rfl, ?_⟩
      have B := B.trans x18
      refine t_assign rfl ?_ rfl
      refine t_done ?_
      refine x_seq ?_
      refine w_seq ?_
      refine w_region ?_
      refine t_move rfl ?_ rfl
      refine t_mul rfl rfl (by omega) ?_ rfl
      refine t_move rfl ?_ rfl
      refine t_mul rfl rfl (by omega) ?_ rfl
      refine t_add rfl rfl (by omega) ?_ rfl
      refine t_move rfl ?_ rfl
      refine t_add rfl rfl (by omega) ?_ rfl
      refine t_move rfl ?_ rfl
      refine t_rem rfl rfl (by omega) ?_ rfl
      refine t_assign rfl ?_ rfl
      refine t_done ?_
      refine x_seq ?_
      refine w_ret ?_
      refine x_ret1 rfl rfl ?_
      exact ⟨_, rfl, ⟨Int.emod_nonneg _ (by omega), .inl (Int.emod_lt_of_pos _ (by omega))⟩, S, B⟩
theorem spec_l1Once {b n c : Nat} {w : World} {v : Value} {os : List Ow} (m : Int) (S : Sep b w (curO v n c 109 :: os)) (K : CodeK b w v n) : Calls Try.prog 116 #[.pointer (some ⟨c, 0, none⟩), I m] w fun e w' => ∃ x : Int, e = .returned (.bool (decide (x = 0))) ∧ True ∧ Sep b w' (curO v n c 109 :: os) ∧ Below b w w' := by
  have X0 := Below.refl w.heap.size w
  refine enter Try.func116 rfl Try.ntmps116 rfl ?_
  have B := Below.refl b w
  have Hb := S.base
  refine w_seq ?_
  refine w_region ?_
  refine t_assign rfl ?_ rfl
  refine t_done ?_
  refine x_seq ?_
  refine w_seq ?_
  refine w_region ?_
  refine t_move rfl ?_ rfl
  refine t_move rfl ?_ rfl
  refine t_callf Try.call64 rfl (spec_l1Below m S (K.below B)) ?_ rfl
  rintro e w19 ⟨y7, rfl, hf7, S, x20⟩
  refine ⟨_, rfl, ?_⟩
  have B := B.trans x20
  refine t_eql rfl rfl ?_ rfl
  refine t_assign rfl ?_ rfl
  refine t_done ?_
  refine x_seq ?_
  refine w_ret ?_
  refine x_ret1 rfl rfl ?_
  exact ⟨_, rfl, trivial, S, B⟩
theorem spec_l1Int {b n c : Nat} {w : World} {v u : Value} {l : List Int} {os : List Ow} (S : Sep b w (curO v n c 109 :: slO intT 3 u l :: os)) (K : CodeK b w v n) (hl : 0 < l.length) : Calls Try.prog 79 #[.pointer (some ⟨c, 0, none⟩), u] w fun e w' => ∃ x : Int, e = .returned (I x) ∧ x ∈ l ∧ Sep b w' (curO v n c 109 :: slO intT 3 u l :: os) ∧ Below b w w' := by
  have X0 := Below.refl w.heap.size w
  refine enter Try.func79 rfl Try.ntmps79 rfl ?_
  have B := Below.refl b w
  have Hb := S.base
  refine w_seq ?_
  refine w_region ?_
  refine t_assign rfl ?_ rfl
  refine t_done ?_
  refine x_seq ?_
  refine w_seq ?_
  refine w_region ?_
  refine t_move rfl ?_ rfl
  refine t_move rfl ?_ rfl
  refine t_move rfl ?_ rfl
  refine t_len e_int (S.tail.sl) rfl rfl ?_ rfl
  refine t_callf Try.call64 rfl (spec_l1Below (l.length : Int) S (K.below B)) ?_ rfl
  rintro e w21 ⟨y9, rfl, hf9, S, x22⟩
  refine ⟨_, rfl, ?_⟩
  have B := B.trans x22
  obtain ⟨e10, he10⟩ : ∃ e, (l)[y9.toNat]? = some e := getx (by omega)
  refine t_idx e_int (k := y9.toNat) (S.tail.sl) he10 (Below.refl _ _) rfl rfl (by first | rfl | omega) ?_ rfl
  intro p10 hp10
  refine t_ldi (by assumption) ab_int (Below.refl _ _) rfl ?_ rfl
  refine t_assign rfl ?_ rfl
  refine t_done ?_
  refine x_seq ?_
  refine w_ret ?_
  refine x_ret1 rfl rfl ?_
  exact ⟨_, rfl, List.mem_of_getElem? he10, S, B⟩
theorem spec_l1New (code : List UInt8) (v : Value) (w : World) (h : SlR byteT w v code) (hz : code.length ≤ 1048576) : Calls Try.prog 52 #[v] w fun e w' => ∃ g fp, e = .returned (.pointer (some ⟨g, 0, none⟩)) ∧ (curO v code.length g 109).P w.heap.size w' fp ∧ Ext w w' := by
  have X0 := Below.refl w.heap.size w
  refine enter Try.func52 rfl Try.ntmps52 rfl ?_
  refine w_seq ?_
  refine w_region ?_
  have S := Sep.nil w
  have B := Below.refl w.heap.size w
  have Hb := Nat.le_refl w.heap.size
  refine t_assign rfl ?_ rfl
  refine t_done ?_
  refine x_seq ?_
  refine w_seq ?_
  refine w_region ?_
  refine t_move rfl ?_ rfl
  refine t_len e_byte (by assumption) rfl rfl ?_ rfl
  refine t_addw rfl rfl ?_ rfl
  refine t_assign rfl ?_ rfl
  refine t_done ?_
  refine x_seq ?_
  refine w_seq ?_
  refine w_seq ?_
  refine w_region ?_
  refine t_assign rfl ?_ rfl
  refine t_done ?_
  refine x_seq ?_
  refine w_block ?_
  refine w_loop (X := Nat × Int) (fun x wq => (fun i h => i ≤ code.length ∧ Below w.heap.size w wq ∧ Sep w.heap.size wq []) x.1 x.2) (fun x => (fun i h => [(4, I ((i : Int))), (3, I h), (0, v), (2, .pointer none)]) x.1 x.2) (fun x => (fun i h => code.length - i) x.1 x.2) (0, _) ?_ ⟨rfl, rfl, rfl, rfl, trivial⟩ ?_
  · exact ⟨by omega, B, S⟩
  rintro ⟨i, h⟩ w23 hI
  try dsimp only at hI ⊢
  · obtain ⟨hi, B, S⟩ := hI
    refine w_seq ?_
    refine w_seq ?_
    refine w_region ?_
    refine t_move rfl ?_ rfl
    refine t_move rfl ?_ rfl
    refine t_len e_byte (by assumption) rfl rfl ?_ rfl
    refine t_lss rfl rfl ?_ rfl
    refine t_move rfl ?_ rfl
    refine t_partp (t := 12) rfl ?_ ?_
    · intro hp
      refine t_on rfl rfl ?_
      refine t_move rfl ?_ rfl
      refine t_on rfl rfl ?_
      refine t_lss rfl rfl ?_ rfl
      refine t_pickt rfl rfl ?_ rfl
      refine t_done ?_
      refine x_seq ?_
      refine w_if rfl ?_ ?_
      · intro hc
        refine w_skip ?_
        refine x_seq ?_
        refine w_seq ?_
        refine w_block ?_
        refine w_region ?_
        refine t_move rfl ?_ rfl
        refine t_mulw rfl rfl ?_ rfl
        refine t_move rfl ?_ rfl
        refine t_move rfl ?_ rfl
        obtain ⟨e22, he22⟩ : ∃ e, (code)[i]? = some e := getx (by omega)
        refine t_idx e_byte (k := i) (by assumption) he22 B rfl rfl (by first | rfl | omega) ?_ rfl
        intro p22 hp22
        refine t_ldu (by assumption) ab_byte B rfl ?_ rfl
        refine t_conv8 Try.underlying5 Try.underlying3 rfl ?_ rfl
        refine t_addw rfl rfl ?_ rfl
        refine t_addw rfl rfl ?_ rfl
        refine t_bitA (by simp) rfl rfl ?_ rfl
        intro z27
        refine t_assign rfl ?_ rfl
        refine t_done ?_
        refine x_block_normal ?_
        refine x_seq ?_
        refine w_region ?_
        refine t_move rfl ?_ rfl
        refine t_add rfl rfl (by omega) ?_ rfl
        refine t_assign rfl ?_ rfl
        refine t_done ?_
        refine x_round (X := Nat × Int) (I := (fun x wq => (fun i h => i ≤ code.length ∧ Below w.heap.size w wq ∧ Sep w.heap.size wq []) x.1 x.2)) (F := (fun x => (fun i h => [(4, I ((i : Int))), (3, I h), (0, v), (2, .pointer none)]) x.1 x.2)) (μ := (fun x => (fun i h => code.length - i) x.1 x.2)) (i + 1, z27) ?_ (by exact ⟨rfl, rfl, rfl, rfl, trivial⟩) (by (try dsimp only); omega)
        try dsimp only
        · exact ⟨by omega, B, S⟩
      · intro hc
        refine w_exit ?_
        refine x_then_exit ?_
        refine x_then_exit ?_
        refine x_block_exit ?_
        refine x_seq ?_
        refine w_seq ?_
        refine w_region ?_
        refine t_move rfl ?_ rfl
        refine t_move rfl ?_ rfl
        obtain ⟨Av, cv, rfl, _⟩ := SlR.form (by assumption)
        refine t_build (fun w => b_cur _ _ _ _ w) rfl ?_ rfl
        refine t_boxo S rfl rfl ?_ rfl rfl
        intro g31 w24 x25 S
        have B := bx Hb B x25
        refine t_assign rfl ?_ rfl
        refine t_done ?_
        refine x_seq ?_
        refine w_ret ?_
        refine x_ret1 rfl rfl ?_
        have S := S.curShut (n := code.length) (by omega) (by omega)
        obtain ⟨fp, hO⟩ := (S.mono X0.size).head
        exact ⟨_, fp, rfl, hO, ext_trans X0 B⟩
    · intro hp
      refine t_off rfl rfl rfl ?_ rfl
      refine t_off rfl rfl rfl ?_ rfl
      refine t_pickf rfl rfl ?_ rfl
      refine t_done ?_
      refine x_seq ?_
      refine w_no rfl ?_
      refine w_exit ?_
      refine x_then_exit ?_
      refine x_then_exit ?_
      refine x_block_exit ?_
      refine x_seq ?_
      refine w_seq ?_
      refine w_region ?_
      refine t_move rfl ?_ rfl
      refine t_move rfl ?_ rfl
      obtain ⟨Av, cv, rfl, _⟩ := SlR.form (by assumption)
      refine t_build (fun w => b_cur _ _ _ _ w) rfl ?_ rfl
      refine t_boxo S rfl rfl ?_ rfl rfl
      intro g31 w26 x27 S
      have B := bx Hb B x27
      refine t_assign rfl ?_ rfl
      refine t_done ?_
      refine x_seq ?_
      refine w_ret ?_
      refine x_ret1 rfl rfl ?_
      have S := S.curShut (n := code.length) (by omega) (by omega)
      obtain ⟨fp, hO⟩ := (S.mono X0.size).head
      exact ⟨_, fp, rfl, hO, ext_trans X0 B⟩
end Go.Proofs.Ytdaecknfahgddaa
namespace Go.Proofs.Ytdaecknfahgddaa
open Go.RowKit
set_option linter.unusedVariables false
/-- A link ends at an interface of an AS. -/
def ends (l : Lnk) (r d : Int) : Bool := (l.a == r && l.ai == d) || (l.b == r && l.bi == d)
/-- The place of the first link that does, -1 if there is none. -/
def findL (l : List Lnk) (r d : Int) : Option Nat := l.findIdx? fun x => ends x r d
def idxI (o : Option Nat) : Int := match o with
  | none => -1
  | some i => i
theorem spec_ends (l : Lnk) (r d : Int) (w : World) : Calls Try.prog 128 #[.agg #[I l.a, I l.ai, I l.b, I l.bi, I l.kind], I r, I d] w fun e w' => e = .returned (.bool (ends l r d)) ∧ Below w.heap.size w w' := by
  obtain ⟨q, Hq⟩ : ∃ q, Hid (q = ends l r d) := ⟨_, rfl⟩
  rw [← Hq.out]
  cases h1 : (l.a == r) <;> cases h2 : (l.ai == d) <;> cases h3 : (l.b == r) <;> cases h4 : (l.bi == d)
  all_goals
    go_enter Try.func128, Try.ntmps128
    go_wp2
    go_ret
    exact ⟨by rw [Hq.out]; simp [ends, h1, h2, h3, h4], ext_alloc1 _ _⟩
theorem findL_step {l : List Lnk} {r d : Int} {k : Nat} {x : Lnk} (h : (l.take k).all (fun y => !ends y r d) = true) (hx : l[k]? = some x) (hf : ends x r d = false) : (l.take (k + 1)).all (fun y => !ends y r d) = true := by
  rw [take_succ hx, List.all_append, h]; simp [hf]
theorem findL_hit {l : List Lnk} {r d : Int} {k : Nat} {x : Lnk} (h : (l.take k).all (fun y => !ends y r d) = true) (hx : l[k]? = some x) (hf : ends x r d = true) : findL l r d = some k := by
  unfold findL
  rw [List.findIdx?_eq_some_iff_getElem]
  obtain ⟨hlt, rfl⟩ := List.getElem?_eq_some_iff.1 hx
  refine ⟨hlt, by simpa using hf, fun j hj => ?_⟩
  rw [List.all_eq_true] at h
  have := h (l[j]'(by omega)) (List.mem_take_iff_getElem.2 ⟨j, by omega, rfl⟩)
  simpa using this
theorem findL_none {l : List Lnk} {r d : Int} (h : l.all (fun y => !ends y r d) = true) : findL l r d = none := by
  unfold findL
  rw [List.findIdx?_eq_none_iff]
  intro x hx
  rw [List.all_eq_true] at h
  simpa using h x hx
theorem findL_at {l : List Lnk} {r d : Int} {k : Nat} (h : findL l r d = some k) : ∃ x, l[k]? = some x ∧ ends x r d = true := by
  unfold findL at h
  rw [List.findIdx?_eq_some_iff_getElem] at h
  obtain ⟨hlt, h1, _⟩ := h
  exact ⟨_, List.getElem?_eq_getElem hlt, h1⟩
theorem spec_LinkIndex (t : Topo) (cs : List Value) (r d : Int) (w : World) (h : topoT.R w cs t) (hz : sz_topo t ≤ 1048576) : Calls Try.prog 112 #[.agg cs.toArray, I r, I d] w fun e w' => e = .returned (I (idxI (findL t.links r d))) ∧ Below w.heap.size w w' := by
  obtain ⟨A0, cA0, A1, cA1, rfl, ⟨_, _⟩, ⟨h, _⟩⟩ := topo_form h
  obtain ⟨n, H⟩ : ∃ n, Hid (n = t.links.length) := ⟨_, rfl⟩
  have hn : n ≤ 1048576 := by rw [H.out]; unfold sz_topo at hz; omega
  obtain ⟨y, Hy⟩ : ∃ y, Hid (y = findL t.links r d) := ⟨_, rfl⟩
  rw [← Hy.out]
  clear hz
  rw [← H.out] at h ⊢
  have P0 : Hid ((w.alloc (.cells #[.slice A0 t.ases.length cA0, .slice A1 n cA1] 27)).cell? ⟨w.heap.size, 1, none⟩ = some (.slice A1 n cA1)) := by show _ = _; simp
  go_enter Try.func112, Try.ntmps112
  go_wp2
  go_loopw [7] (fun i wr => ∃ k : Nat, k ≤ n ∧ i = I k ∧ (t.links.take k).all (fun y => !ends y r d) = true ∧ Below w.heap.size w wr ∧ wr.cell? ⟨w.heap.size, 1, none⟩ = some (.slice A1 n cA1)) (fun i _ => n - (intOf i).toNat)
  case atStart => exact ⟨0, by omega, rfl, rfl, ext_alloc1 _ _, P0.out⟩
  case round =>
    obtain ⟨k, hk, rfl, hall, hb, p0⟩ := hrel
    have Ha := hid hall
    clear hall P0
    by_cases hlt : k < n
    · obtain ⟨g, o, q, x, e, hg, hxk, c0, c1, c2, c3, c4⟩ := link_at (h.below hb) (by rw [← H.out]; exact hlt)
      rw [← H.out] at e
      cases e
      go_wp2_with (fail)
      refine (spec_ends x r d _).mono ?_
      rintro e w1 ⟨rfl, hb1⟩
      have p1 := ck hb1 p0
      cases hv : ends x r d
      · go_wp2_with (fail)
        go_roundw
        case rel => exact ⟨k + 1, by omega, by go_num, findL_step Ha.out hxk.out hv, ext_trans hb hb1, p1⟩
        case measure => simp [intOf]; omega
      · go_wp2_with (fail)
        go_ret
        exact ⟨by rw [Hy.out, findL_hit Ha.out hxk.out hv]; rfl, ext_trans hb hb1⟩
    · go_wp2
      go_ret
      have hkn : k = n := by omega
      have h1 := Ha.out
      rw [List.take_of_length_le (by rw [← H.out]; omega)] at h1
      exact ⟨by rw [Hy.out, findL_none h1]; rfl, hb⟩
/-- What is at the other end of an interface. -/
def ifKind (t : Topo) (r d : Int) : Int :=
  if d = 0 then 5 else match (findL t.links r d).bind (t.links[·]?) with
    | none => 0
    | some l => if l.kind = 1 then 1 else if l.kind = 3 then 4 else if l.kind = 2 then (if l.a = r ∧ l.ai = d then 2 else 3) else 0
theorem kind4 (k : Int) : k = 1 ∨ k = 3 ∨ k = 2 ∨ ((k == 1) = false ∧ (k == 3) = false ∧ (k == 2) = false ∧ (k != 2) = true) := by
  simp only [beq_eq_false_iff_ne, bne_iff_ne, ne_eq]; omega
set_option maxRecDepth 100000 in
theorem spec_ifKind (t : Topo) (cs : List Value) (r d : Int) (w : World) (h : topoT.R w cs t) (hz : sz_topo t ≤ 1048576) : Calls Try.prog 68 #[.agg cs.toArray, I r, I d] w fun e w' => e = .returned (I (ifKind t r d)) ∧ Below w.heap.size w w' := by
  obtain ⟨A0, cA0, A1, cA1, rfl, ⟨_, _⟩, ⟨hl, _⟩⟩ := topo_form h
  have hb0 : Below w.heap.size w (w.alloc (.cells #[.slice A0 t.ases.length cA0, .slice A1 t.links.length cA1] 27)) := ext_alloc1 _ _
  obtain ⟨y, Hy⟩ : ∃ y, Hid (y = ifKind t r d) := ⟨_, rfl⟩
  rw [← Hy.out]
  have hn : t.links.length ≤ 1048576 := by unfold sz_topo at hz; omega
  by_cases hd : d = 0
  · have HY : Hid (y = 5) := by show y = _; rw [Hy.out]; simp [ifKind, hd]
    subst hd
    go_enter Try.func68, Try.ntmps68
    go_wp2
    go_ret
    exact ⟨by rw [HY.out]; rfl, hb0⟩
  · have hdb : (d == 0) = false := by simpa using hd
    have HC := hid (spec_LinkIndex t _ r d _ (topoT.kp h hb0) hz)
    cases hf : findL t.links r d with
    | none =>
      have HY : Hid (y = 0) := by show y = _; rw [Hy.out]; simp [ifKind, hd, hf]
      rw [hf] at HC
      change Hid (Calls _ _ _ _ fun e w' => e = .returned (I (-1)) ∧ _) at HC
      clear hf hd
      go_enter Try.func68, Try.ntmps68
      go_wp2_with (fail)
      refine HC.out.mono ?_
      rintro e w1 ⟨rfl, hb1⟩
      go_wp2_with (fail)
      go_ret
      exact ⟨by rw [HY.out]; rfl, ext_trans hb0 hb1⟩
    | some i =>
      obtain ⟨x, hxi, hxe⟩ := findL_at hf
      have hi : i < t.links.length := (List.getElem?_eq_some_iff.1 hxi).1
      have HY : Hid (y = if x.kind = 1 then 1 else if x.kind = 3 then 4 else if x.kind = 2 then (if x.a = r ∧ x.ai = d then 2 else 3) else 0) := by
        show y = _; rw [Hy.out]; simp [ifKind, hd, hf, hxi]
      rw [hf] at HC
      change Hid (Calls _ _ _ _ fun e w' => e = .returned (I (i : Int)) ∧ _) at HC
      obtain ⟨g, o, q, x', e, hg, hxk, c0, c1, c2, c3, c4⟩ := link_at hl hi
      obtain rfl : x' = x := by have := hxk.out; rw [this] at hxi; injection hxi
      cases e
      have hi0 : ¬ (i : Int) < 0 := by omega
      clear hf hd hxe hxi Hy hl
      go_enter Try.func68, Try.ntmps68
      go_wp2_with (fail)
      refine HC.out.mono ?_
      rintro e w1 ⟨rfl, hb1⟩
      have x1 := ext_trans hb0 hb1
      have p1 : w1.cell? ⟨w.heap.size, 1, none⟩ = some (.slice (some ⟨g, o, none⟩) t.links.length cA1) := ck hb1 (by simp)
      replace c0 := ck x1 c0
      replace c1 := ck x1 c1
      replace c2 := ck x1 c2
      replace c3 := ck x1 c3
      replace c4 := ck x1 c4
      clear HC hb0 hb1
      rcases kind4 x'.kind with hk | hk | hk | ⟨k1, k2, k3, k4⟩
      · rw [hk] at c4
        have HZ : Hid (y = 1) := by show y = _; rw [HY.out, hk]; rfl
        clear hk
        go_wp2_with (fail)
        go_ret
        exact ⟨by rw [HZ.out]; rfl, ext_alloc x1 _⟩
      · rw [hk] at c4
        have HZ : Hid (y = 4) := by show y = _; rw [HY.out, hk]; rfl
        clear hk
        go_wp2_with (fail)
        go_ret
        exact ⟨by rw [HZ.out]; rfl, ext_alloc x1 _⟩
      · rw [hk] at c4
        by_cases ha : x'.a = r
        · have hab : (x'.a == r) = true := by simp [ha]
          by_cases hb : x'.ai = d
          · have hbb : (x'.ai == d) = true := by simp [hb]
            have HZ : Hid (y = 2) := by show y = _; rw [HY.out, hk]; simp [ha, hb]
            clear hk ha hb
            go_wp2_with (fail)
            go_ret
            exact ⟨by rw [HZ.out]; rfl, ext_alloc x1 _⟩
          · have hbb : (x'.ai == d) = false := by simp [hb]
            have HZ : Hid (y = 3) := by show y = _; rw [HY.out, hk]; simp [hb]
            clear hk ha hb
            go_wp2_with (fail)
            go_ret
            exact ⟨by rw [HZ.out]; rfl, ext_alloc x1 _⟩
        · have hab : (x'.a == r) = false := by simp [ha]
          have HZ : Hid (y = 3) := by show y = _; rw [HY.out, hk]; simp [ha]
          clear hk ha
          go_wp2_with (fail)
          go_ret
          exact ⟨by rw [HZ.out]; rfl, ext_alloc x1 _⟩
      · have HZ : Hid (y = 0) := by
          show y = _
          rw [HY.out]
          simp only [beq_eq_false_iff_ne, ne_eq] at k1 k2 k3
          simp [k1, k2, k3]
        go_wp2_with (fail)
        go_ret
        exact ⟨by rw [HZ.out]; rfl, ext_alloc x1 _⟩
/-- The other end of the link of an interface. -/
def remote (t : Topo) (r d : Int) : Int × Int := match (findL t.links r d).bind (t.links[·]?) with
  | none => (-1, 0)
  | some l => if l.a = r ∧ l.ai = d then (l.b, l.bi) else (l.a, l.ai)
end Go.Proofs.Ytdaecknfahgddaa
namespace Go.Proofs.Ytdaecknfahgddaa
open Go.RowKit
set_option linter.unusedVariables false
/-- The elements of a slice, without the slice. -/
def elsO {α : Type} (T : Ty α) (css : List (List Value)) (l : List α) : Ow where
  P b w fp := ∃ fps : List (List Nat), css.length = l.length ∧ fps.length = l.length ∧ (∀ (i : Nat) cs a f, css[i]? = some cs → l[i]? = some a → fps[i]? = some f → T.O b w cs a f) ∧ fp = fps.flatten ∧ fp.Nodup
  lt := by
    rintro b w fp ⟨fps, h1, h2, h4, rfl, h6⟩ x hx
    obtain ⟨f, hf, hxf⟩ := List.mem_flatten.1 hx
    obtain ⟨i, hi, rfl⟩ := List.getElem_of_mem hf
    exact T.lt _ _ _ _ _ (h4 i _ _ _ (List.getElem?_eq_getElem (by omega)) (List.getElem?_eq_getElem (by omega)) (List.getElem?_eq_getElem hi)) x hxf
  keep := by
    rintro b w w' fp ⟨fps, h1, h2, h4, rfl, h6⟩ hk
    exact ⟨fps, h1, h2, fun i cs a f hc ha hf => T.okeep _ _ _ _ _ _ (h4 i cs a f hc ha hf) fun x hx => hk x (List.mem_flatten.2 ⟨f, List.mem_of_getElem? hf, hx⟩), rfl, h6⟩
  mono := by
    rintro b b' w fp hb ⟨fps, h1, h2, h4, h5, h6⟩
    exact ⟨fps, h1, h2, fun i cs a f hc ha hf => T.mono _ _ _ _ _ _ hb (h4 i cs a f hc ha hf), h5, h6⟩
section
variable {α : Type} {T : Ty α} {b : Nat} {w : World} {os : List Ow} {e : TypeId} {v : Value} {l : List α} {css : List (List Value)}
theorem Rd.take {A : Option Addr} {xs : List Value} (h : Rd w A xs) (k : Nat) : Rd w A (xs.take k) := by
  intro hp
  rw [List.length_take] at hp
  obtain ⟨g, o, rfl, hg⟩ := h (by omega)
  refine ⟨g, o, rfl, fun j u hu => hg j u ?_⟩
  rw [List.getElem?_take] at hu
  split at hu
  · exact hu
  · cases hu
end
section
variable {P : Program} {n : Nat} {ops : Array Oper} {Q : Exit → Act → World → Prop} {L : Frm} {w : World} {m : Md} {r : IT} {d : Nat} {ty : TypeId} {pos : String} {af : Array Edge} {b : Nat} {os : List Ow}
/-- A cut of a slice, its value told. -/
theorem t_sltv {t e : TypeId} {size bytes : Nat} (et : ElemT P t e size bytes) {A : Option Addr} {nn c : Nat} {xo hi : Operand} {k : Nat} {i : Int} (hx : ev L xo = some (.slice A nn c)) (hi' : ev L hi = some (I i)) (hik : i = ((k : Nat) : Int)) (hk : k ≤ c)
    (kk : WT P n ops Q r ((d, .slice A k c) :: L) w) (hn : Nat.blt d n = true) : WT P n ops Q (.st m ⟨some d, .slice t xo none (some hi) none, ty, pos, af, none⟩ r) L w := by
  obtain ⟨inf, z, hinf, _, hsz, _, _⟩ := et.info
  subst hik
  refine t_read (v := .slice A k c) (fun a ha _ _ _ w' _ => ?_) kk hn
  have hc : (0 : Int) ≤ (k : Int) ∧ (k : Int) ≤ (c : Int) := by omega
  cases A <;> simp [execOp, ha.ev hx, ha.ev hi', Instr.sliceAt, Instr.slice, Instr.sliceBounds, Instr.sliceBound, asIntOf, run_underlying et.und, hk, sizeOf, typeInfo, hinf, Addr.add]
theorem t_sldv {t e : TypeId} {size bytes : Nat} (et : ElemT P t e size bytes) {A : Option Addr} {nn c : Nat} {xo lo : Operand} {k : Nat} {i : Int} (hx : ev L xo = some (.slice A nn c)) (hi' : ev L lo = some (I i)) (hik : i = ((k : Nat) : Int)) (hk : k ≤ nn) (hc : nn ≤ c)
    (kk : WT P n ops Q r ((d, .slice (if c = k then A else A.map (·.add (k * size))) (nn - k) (c - k)) :: L) w) (hn : Nat.blt d n = true) : WT P n ops Q (.st m ⟨some d, .slice t xo (some lo) none none, ty, pos, af, none⟩ r) L w := by
  obtain ⟨inf, z, hinf, _, hsz, _, _⟩ := et.info
  subst hik
  refine t_read (fun a ha _ _ _ w' _ => ?_) kk hn
  have hc' : (0 : Int) ≤ (k : Int) ∧ (k : Int) ≤ (nn : Int) := by omega
  simp [execOp, ha.ev hx, ha.ev hi', Instr.sliceAt, Instr.slice, Instr.sliceBounds, Instr.sliceBound, asIntOf, run_underlying et.und, hk, sizeOf, typeInfo, hinf, hsz]
/-- A slice literal of nothing. -/
theorem t_lit0 {α : Type} {T : Ty α} {t e : TypeId} {C : Array Value} (S : Sep b w os)
    (hb : ∀ w, (Instr.buildSlice t 0 #[]).run P w = .ok (.slice (some ⟨w.heap.size, 0, none⟩) 0 0) (w.alloc (.cells C e))) (hC : C = #[])
    (k : ∀ A0 w', Ext w w' → Sep b w' (slO T e (.slice A0 0 0) ([] : List α) :: os) → WT P n ops Q r ((d, .slice A0 0 0) :: L) w') (hm : m.isTake = false) (hn : Nat.blt d n = true) : WT P n ops Q (.st m ⟨some d, .buildSlice t 0 #[], ty, pos, af, none⟩ r) L w := by
  subst hC
  have he := ext_new w (.cells #[] e)
  have hO : SlO T e w.heap.size (w.alloc (.cells #[] e)) (.slice (some ⟨w.heap.size, 0, none⟩) 0 0) ([] : List α) [w.heap.size] := by
    refine ⟨[], [], rfl, rfl, ?_, (fun i cs a f hi ha hf => by simp at hi), rfl, by simp⟩
    have := World.ownsRow_lit (base := w.heap.size) (e := e) (size := T.size) w (#[] : Array Value) 0 (Nat.le_refl _) (by simp [maxLen]) (by simp)
    simpa using this
  refine t_make he (fun a ha _ _ _ => ?_) (k _ _ he (S.add he hO)) hm hn
  simp [execOp, hb]
end
end Go.Proofs.Ytdaecknfahgddaa
namespace Go.Proofs.Ytdaecknfahgddaa
open Go.RowKit
set_option linter.unusedVariables false
def PreL (pre : List Nat) (l : Array Bool) : Prop := ∀ j, pre.contains j = true → l.getD j false = true
theorem getD_setF {l : Array Bool} {i j : Nat} (h : l.getD j false = true) : (l.setIfInBounds i true).getD j false = true := by
  by_cases hij : i = j
  · subst hij
    by_cases hlt : i < l.size
    · simp [hlt]
    · simp [hlt] at h
  · rw [getD_set_ne false hij]; exact h
theorem PreL.set {pre : List Nat} {l : Array Bool} (h : PreL pre l) (i : Nat) : PreL pre (l.setIfInBounds i true) := fun j hj => getD_setF (h j hj)
theorem PreL.not {pre : List Nat} {l : Array Bool} (h : PreL pre l) {j : Nat} (hj : l.getD j true = false) : pre.contains j = false := by
  cases hb : pre.contains j with
  | false => rfl
  | true =>
    have h2 := h j hb
    rcases Nat.lt_or_ge j l.size with h' | h'
    · simp [h'] at hj h2; rw [hj] at h2; cases h2
    · simp [Array.getElem?_eq_none h'] at h2
def hOne (pre : List Nat) (top : Plan) (i : Nat) : Bool := !top.isFin i && !pre.contains i
theorem PreL.one {pre : List Nat} {l : Array Bool} (h : PreL pre l) {top : Plan} {i : Nat} (hi : (!top.isFin i) = true) (hj : l.getD i true = false) : hOne pre top i = true := by
  unfold hOne
  rw [hi, h.not hj]
  rfl
section
variable {P : Program} {ops : Array Oper} {Q : Exit → Act → World → Prop} {S S' : World → Prop} {h1 : Nat → Bool}
theorem G_first2 (pre : List Nat) (hph : ∀ j i, pre.contains j = false → h1 j = false → h1 i = true → j < ops.size → i < ops.size → waits ops ops.size j i = true) {i : Nat} {oi : Oper} {v : Value} (hi : ops[i]? = some oi) (hi1 : h1 i = true) (hsel : ∀ (j : Nat) (o : Oper) cs b, ops[j]? = some o → o.op ≠ .select cs b)
    (hQ : ∀ c a w, Q (.panic c) (a.put oi.dst v) w → Q (.panic c) a w) :
    ∀ (fuel : Nat) (listed : Array Bool) (a : Act) (w : World), Closed ops listed → PreL pre listed →
      (∀ j oj, ops[j]? = some oj → j ≠ i → listed.getD j true = false → (∀ e ∈ oj.after, Region.binds .any e = true → e.on ≠ i) → oi.apart ops oj = true) →
      i ∈ Region.ready .any ops listed → YieldsIf P ops S oi v a → S w →
      wpAnyG P ops Q S h1 fuel (listed.setIfInBounds i true) (a.put oi.dst v) w → wpAnyG P ops Q S h1 (fuel + 1) listed a w := by
  intro fuel
  induction fuel with
  | zero =>
    intro listed a w _ _ _ hr hy hS H
    refine ⟨fun h => (by rw [h] at hr; cases hr), fun j hj => ?_⟩
    by_cases hji : j = i
    · subst hji; exact hy.wpOp hi hS ⟨fun _ => hS, H⟩
    · have := ready_mono hj hji
      rw [H.1] at this
      cases this
  | succ fuel ih =>
    intro listed a w hcl hpl hfree hr hy hS H
    refine ⟨fun h => (by rw [h] at hr; cases hr), fun j hj => ?_⟩
    by_cases hji : j = i
    · subst hji; exact hy.wpOp hi hS ⟨fun _ => hS, H⟩
    · have hm := H.2 j (ready_mono hj hji)
      obtain ⟨hjun, oj, hoj, hall⟩ := mem_ready.1 hj
      have hilt : i < ops.size := (Array.getElem?_eq_some_iff.1 hi).1
      have hjlt : j < ops.size := (Array.getElem?_eq_some_iff.1 hoj).1
      have hnl : listed.getD i false ≠ true := fun h => by
        have h0 := (mem_ready.1 hr).1
        rcases Nat.lt_or_ge i listed.size with h' | h'
        · simp [h'] at h0 h; rw [h0] at h; cases h
        · simp [Array.getElem?_eq_none h'] at h
      have hj1 : h1 j = true := by
        cases hb : h1 j
        · exact absurd (hcl.waits _ _ _ (fun o ho => by rw [hoj] at ho; cases ho; exact hall) (hph j i (hpl.not (mem_ready.1 hj).1) hb hi1 hjlt hilt)) hnl
        · rfl
      have hnot : ∀ e ∈ oj.after, Region.binds .any e = true → e.on ≠ i := fun e he hb heq => hnl (heq ▸ hall e he hb)
      have h2 := wpOp_putIf hoj (hfree j oj hoj hji hjun hnot) (fun cs b => hsel i oi cs b hi) (fun cs b => hsel j oj cs b hoj) hQ hy hm
      have hfree' : ∀ k ok, ops[k]? = some ok → k ≠ i → (listed.setIfInBounds j true).getD k true = false →
          (∀ e ∈ ok.after, Region.binds .any e = true → e.on ≠ i) → oi.apart ops ok = true := fun k ok hk hki hun hno => by
        refine hfree k ok hk hki ?_ hno
        by_cases hjk : j = k
        · subst hjk; exact hjun
        · rw [getD_set_ne true hjk] at hun; exact hun
      refine wpOp_mono (fun a' w' h3 => ⟨h3.2.1, ih (listed.setIfInBounds j true) a' w' (hcl.set hj) (hpl.set j) hfree' (ready_mono hr (Ne.symm hji)) h3.1 (h3.2.1 hj1) ?_⟩) h2
      rw [Array.setIfInBounds_comm _ _ hji]
      exact h3.2.2
theorem plan_sound2 (pre : List Nat) (top : Plan) (hph : ∀ j i, top.isFin j = true → top.isFin i = false → pre.contains i = false → j < ops.size → i < ops.size → waits ops ops.size j i = true) (hsel : ∀ (j : Nat) (o : Oper) cs b, ops[j]? = some o → o.op ≠ .select cs b)
    (hQ : ∀ c a w d v, Q (.panic c) (Act.put a d v) w → Q (.panic c) a w) (p : Plan) : ∀ (l : Array Bool) (a : Act) (w : World), Closed ops l → PreL pre l → modesIn top p = true → wpT P ops Q (p.tree ops) a w →
      (p.ok ops false l = true → ∀ f, p.len ≤ f → wpAnyG P ops Q (Ext w) (hOne pre top) f l a w) ∧
      (p.ok ops true l = true → ∀ f, p.len ≤ f + 1 → ∀ i ∈ p.heads, i ∈ Region.ready .any ops l → wpOp P ops Q i (fun a' w' => (hOne pre top i = true → Ext w w') ∧ wpAnyG P ops Q (Ext w) (hOne pre top) f (l.setIfInBounds i true) a' w') a w) := by
  have hph' : ∀ j i, pre.contains j = false → hOne pre top j = false → hOne pre top i = true → j < ops.size → i < ops.size → waits ops ops.size j i = true := fun j i hp h1 h2 => by
    simp only [hOne, Bool.and_eq_true, Bool.not_eq_true', Bool.and_eq_false_iff, Bool.not_eq_false'] at h1 h2
    rcases h1 with h1 | h1
    · exact hph j i h1 h2.1 h2.2
    · rw [hp] at h1; cases h1
  induction p with
  | done =>
    intro l a w hc hpl hm hT
    refine ⟨fun hok f hf => G_done (by simpa [Plan.ok] using hok) hT f, fun hok => by simp [Plan.ok] at hok⟩
  | alt p q ihp ihq =>
    intro l a w hc hpl hm hT
    simp only [modesIn, Bool.and_eq_true] at hm
    obtain ⟨hTp, hTq⟩ := hT
    have hp := ihp l a w hc hpl hm.1 hTp
    have hq := ihq l a w hc hpl hm.2 hTq
    have hB : p.ok ops true l = true → q.ok ops true l = true → ∀ f, max p.len q.len ≤ f + 1 → ∀ i ∈ p.heads ++ q.heads, i ∈ Region.ready .any ops l → wpOp P ops Q i (fun a' w' => (hOne pre top i = true → Ext w w') ∧ wpAnyG P ops Q (Ext w) (hOne pre top) f (l.setIfInBounds i true) a' w') a w := by
      intro h1 h2 f hf i hi hr
      rcases List.mem_append.1 hi with hi | hi
      · exact hp.2 h1 f (by omega) i hi hr
      · exact hq.2 h2 f (by omega) i hi hr
    refine ⟨fun hok f hf => ?_, fun hok f hf i hi hr => ?_⟩
    · simp only [Plan.ok, Bool.and_eq_true, Bool.false_or] at hok
      obtain ⟨⟨⟨hne, hall⟩, h1⟩, h2⟩ := hok
      simp only [Plan.len] at hf
      have hpos : 0 < f := by
        cases hpl : p with
        | done => rw [hpl] at h1; simp [Plan.ok] at h1
        | st m i r => rw [hpl] at hf; simp only [Plan.len] at hf; omega
        | alt p1 q1 =>
          rcases Nat.eq_zero_or_pos f with h0 | h0
          · exfalso
            have key : ∀ p : Plan, p.ok ops true l = true → 0 < p.len := by
              intro p
              induction p with
              | done => intro h; simp [Plan.ok] at h
              | st m i r _ => intro _; simp [Plan.len]
              | alt p q ih1 _ => intro h; simp only [Plan.ok, Bool.true_or, Bool.true_and, Bool.and_eq_true] at h; have := ih1 h.1; simp only [Plan.len]; omega
            have := key p h1
            omega
          · exact h0
      obtain ⟨f, rfl⟩ : ∃ g, f = g + 1 := ⟨f - 1, by omega⟩
      refine ⟨fun h0 => by rw [h0] at hne; simp at hne, fun i hi => hB h1 h2 f hf i ?_ hi⟩
      have := List.all_eq_true.1 hall i hi
      simpa using this
    · simp only [Plan.ok, Bool.and_eq_true, Bool.true_or, Bool.true_and] at hok
      exact hB hok.1 hok.2 f hf i hi hr
  | st m i r ih =>
    have hop : Nat.blt i ops.size = true → ops[i]? = some (ops.getD i default) := fun h => by
      have : i < ops.size := by simpa [Nat.blt_eq] using h
      simp [this]
    cases m with
    | take =>
      intro l a w hc hpl hm hT
      refine ⟨fun hok f hf => ?_, fun hok => by simp [Plan.ok] at hok⟩
      simp only [Plan.ok, Bool.and_eq_true, Bool.not_false, true_and] at hok
      obtain ⟨⟨⟨hlt, hfr⟩, hrd⟩, hr⟩ := hok
      simp only [modesIn, Bool.and_eq_true] at hm
      obtain ⟨v, hy, hT⟩ := hT
      simp only [Plan.len] at hf
      obtain ⟨f, rfl⟩ : ∃ g, f = g + 1 := ⟨f - 1, by omega⟩
      have hrd' : i ∈ Region.ready .any ops l := by simpa using hrd
      exact G_first2 pre hph' (hop hlt) (hpl.one hm.1 (mem_ready.1 hrd').1) hsel (fun c a w h => hQ c a w _ _ h) f l a w hc hpl (Region.free_spec (hop hlt) hfr) hrd' hy (Below.refl _ _) ((ih _ _ w (hc.set hrd') (hpl.set i) hm.2 hT).1 hr f (by omega))
    | run =>
      intro l a w hc hpl hm hT
      simp only [modesIn, Bool.and_eq_true] at hm
      have hB : Nat.blt i ops.size = true → r.ok ops false (l.setIfInBounds i true) = true → i ∈ Region.ready .any ops l → ∀ f, r.len ≤ f → wpOp P ops Q i (fun a' w' => (hOne pre top i = true → Ext w w') ∧ wpAnyG P ops Q (Ext w) (hOne pre top) f (l.setIfInBounds i true) a' w') a w := by
        intro hlt hr hrd f hf
        simp only [Plan.tree, wpT] at hT
        have ho' := hop hlt
        generalize ops.getD i default = o' at ho' hT
        unfold wpOp
        simp only [ho']
        split
        · rename_i hw
          rw [if_pos hw] at hT
          exact .inl (Oper.wp_mono (fun a' w' h => ⟨fun _ => h.1, G_mono (fun x hx => ext_trans h.1 hx) _ _ _ _ ((ih _ a' w' (hc.set hrd) (hpl.set i) hm.2 h.2).1 hr f hf)⟩) hT)
        · rename_i hw
          rw [if_neg hw] at hT
          exact ⟨fun _ => Below.refl _ _, (ih _ _ w (hc.set hrd) (hpl.set i) hm.2 hT).1 hr f hf⟩
      refine ⟨fun hok f hf => ?_, fun hok f hf j hj hrd => ?_⟩
      · simp only [Plan.ok, Bool.and_eq_true, Bool.false_or] at hok
        obtain ⟨⟨hlt, hrd⟩, hr⟩ := hok
        have hrd' : Region.ready .any ops l = [i] := by simpa using hrd
        simp only [Plan.len] at hf
        obtain ⟨f, rfl⟩ : ∃ g, f = g + 1 := ⟨f - 1, by omega⟩
        refine ⟨(fun h0 => by rw [h0] at hrd'; cases hrd'), fun j hj => ?_⟩
        have : j = i := by rw [hrd'] at hj; simpa using hj
        subst this
        exact hB hlt hr hj f (by omega)
      · simp only [Plan.ok, Bool.and_eq_true, Bool.true_or, and_true] at hok
        have : j = i := by simpa [Plan.heads] using hj
        subst this
        simp only [Plan.len] at hf
        exact hB hok.1 hok.2 hrd f (by omega)
    | fin =>
      intro l a w hc hpl hm hT
      simp only [modesIn, Bool.and_eq_true] at hm
      have hB : Nat.blt i ops.size = true → r.ok ops false (l.setIfInBounds i true) = true → i ∈ Region.ready .any ops l → ∀ f, r.len ≤ f → wpOp P ops Q i (fun a' w' => (hOne pre top i = true → Ext w w') ∧ wpAnyG P ops Q (Ext w) (hOne pre top) f (l.setIfInBounds i true) a' w') a w := by
        intro hlt hr hrd f hf
        have hlt' : i < ops.size := by simpa [Nat.blt_eq] using hlt
        have hall : ∀ k, k < ops.size → hOne pre top k = true → (l.setIfInBounds i true).getD k true = true := by
          intro k hks hk
          obtain ⟨_, o, ho, hedge⟩ := mem_ready.1 hrd
          have := hc.waits _ i k (fun o' ho' => by rw [ho] at ho'; cases ho'; exact hedge) (hph i k hm.1 (by simp only [hOne, Bool.and_eq_true, Bool.not_eq_true'] at hk; exact hk.1) (by simp only [hOne, Bool.and_eq_true, Bool.not_eq_true'] at hk; exact hk.2) hlt' hks)
          have h2 : l.getD k true = true := by
            rcases Nat.lt_or_ge k l.size with h' | h'
            · simp [h'] at this ⊢; exact this
            · simp [Array.getElem?_eq_none h'] at this
          exact getD_set h2
        simp only [Plan.tree, wpT] at hT
        have ho' := hop hlt
        generalize ops.getD i default = o' at ho' hT
        unfold wpOp
        simp only [ho']
        split
        · rename_i hw
          rw [if_pos hw] at hT
          exact .inl (Oper.wp_mono (fun a' w' h => ⟨(fun hh => by simp [hOne, hm.1] at hh), G_free _ _ _ _ hall ((ih _ a' w' (hc.set hrd) (hpl.set i) hm.2 h).1 hr f hf)⟩) hT)
        · rename_i hw
          rw [if_neg hw] at hT
          exact ⟨fun _ => Below.refl _ _, (ih _ _ w (hc.set hrd) (hpl.set i) hm.2 hT).1 hr f hf⟩
      refine ⟨fun hok f hf => ?_, fun hok f hf j hj hrd => ?_⟩
      · simp only [Plan.ok, Bool.and_eq_true, Bool.false_or] at hok
        obtain ⟨⟨hlt, hrd⟩, hr⟩ := hok
        have hrd' : Region.ready .any ops l = [i] := by simpa using hrd
        simp only [Plan.len] at hf
        obtain ⟨f, rfl⟩ : ∃ g, f = g + 1 := ⟨f - 1, by omega⟩
        refine ⟨(fun h0 => by rw [h0] at hrd'; cases hrd'), fun j hj => ?_⟩
        have : j = i := by rw [hrd'] at hj; simpa using hj
        subst this
        exact hB hlt hr hj f (by omega)
      · simp only [Plan.ok, Bool.and_eq_true, Bool.true_or, and_true] at hok
        have : j = i := by simpa [Plan.heads] using hj
        subst this
        simp only [Plan.len] at hf
        exact hB hok.1 hok.2 hrd f (by omega)
/-- A step that no world touches, and that nobody has to wait for with what he knows of the world. -/
theorem G_firstP {i : Nat} {oi : Oper} {v : Value} (hi : ops[i]? = some oi) (hi1 : h1 i = false) (hsel : ∀ (j : Nat) (o : Oper) cs b, ops[j]? = some o → o.op ≠ .select cs b)
    (hQ : ∀ c a w, Q (.panic c) (a.put oi.dst v) w → Q (.panic c) a w) :
    ∀ (fuel : Nat) (listed : Array Bool) (a : Act) (w : World),
      (∀ j oj, ops[j]? = some oj → j ≠ i → listed.getD j true = false → (∀ e ∈ oj.after, Region.binds .any e = true → e.on ≠ i) → oi.apart ops oj = true) →
      i ∈ Region.ready .any ops listed → YieldsIf P ops (fun _ => True) oi v a →
      wpAnyG P ops Q S h1 fuel (listed.setIfInBounds i true) (a.put oi.dst v) w → wpAnyG P ops Q S h1 (fuel + 1) listed a w := by
  intro fuel
  induction fuel with
  | zero =>
    intro listed a w _ hr hy H
    refine ⟨fun h => (by rw [h] at hr; cases hr), fun j hj => ?_⟩
    by_cases hji : j = i
    · subst hji; exact hy.wpOp hi trivial ⟨(fun hh => by rw [hi1] at hh; cases hh), H⟩
    · have := ready_mono hj hji
      rw [H.1] at this
      cases this
  | succ fuel ih =>
    intro listed a w hfree hr hy H
    refine ⟨fun h => (by rw [h] at hr; cases hr), fun j hj => ?_⟩
    by_cases hji : j = i
    · subst hji; exact hy.wpOp hi trivial ⟨(fun hh => by rw [hi1] at hh; cases hh), H⟩
    · have hm := H.2 j (ready_mono hj hji)
      obtain ⟨hjun, oj, hoj, hall⟩ := mem_ready.1 hj
      have hnl : listed.getD i false ≠ true := fun h => by
        have h0 := (mem_ready.1 hr).1
        rcases Nat.lt_or_ge i listed.size with h' | h'
        · simp [h'] at h0 h; rw [h0] at h; cases h
        · simp [Array.getElem?_eq_none h'] at h
      have hnot : ∀ e ∈ oj.after, Region.binds .any e = true → e.on ≠ i := fun e he hb heq => hnl (heq ▸ hall e he hb)
      have h2 := wpOp_putIf hoj (hfree j oj hoj hji hjun hnot) (fun cs b => hsel i oi cs b hi) (fun cs b => hsel j oj cs b hoj) hQ hy hm
      have hfree' : ∀ k ok, ops[k]? = some ok → k ≠ i → (listed.setIfInBounds j true).getD k true = false →
          (∀ e ∈ ok.after, Region.binds .any e = true → e.on ≠ i) → oi.apart ops ok = true := fun k ok hk hki hun hno => by
        refine hfree k ok hk hki ?_ hno
        by_cases hjk : j = k
        · subst hjk; exact hjun
        · rw [getD_set_ne true hjk] at hun; exact hun
      refine wpOp_mono (fun a' w' h3 => ⟨h3.2.1, ih (listed.setIfInBounds j true) a' w' hfree' (ready_mono hr (Ne.symm hji)) h3.1 ?_⟩) h2
      rw [Array.setIfInBounds_comm _ _ hji]
      exact h3.2.2
/-- Steps that no world touches, ahead of the rest. -/
def wpPre (P : Program) (ops : Array Oper) (Q : Exit → Act → World → Prop) : List Oper → IT → Act → World → Prop
  | [], T, a, w => wpT P ops Q T a w
  | o :: l, T, a, w => ∃ v, YieldsIf P ops (fun _ => True) o v a ∧ wpPre P ops Q l T (a.put o.dst v) w
def preOK (ops : Array Oper) : List Nat → Array Bool → Bool
  | [], _ => true
  | i :: t, l => Nat.blt i ops.size && Region.free .any ops l i && (Region.ready .any ops l).contains i && preOK ops t (l.setIfInBounds i true)
def preEnd : List Nat → Array Bool → Array Bool
  | [], l => l
  | i :: t, l => preEnd t (l.setIfInBounds i true)
theorem pre_sound (top : Plan) (all : List Nat) (hsel : ∀ (j : Nat) (o : Oper) cs b, ops[j]? = some o → o.op ≠ .select cs b) (hQ : ∀ c a w d v, Q (.panic c) (Act.put a d v) w → Q (.panic c) a w)
    (hph : ∀ j i, top.isFin j = true → top.isFin i = false → all.contains i = false → j < ops.size → i < ops.size → waits ops ops.size j i = true) (hm : modesIn top top = true) :
    ∀ (pre : List Nat) (l : Array Bool) (a : Act) (w : World), (∀ i ∈ pre, all.contains i = true) → (∀ i, all.contains i = true → l.getD i false = true ∨ i ∈ pre) → Closed ops l → preOK ops pre l = true → top.ok ops false (preEnd pre l) = true →
      wpPre P ops Q (pre.map fun i => ops.getD i default) (top.tree ops) a w → ∀ f, top.len ≤ f → wpAnyG P ops Q (Ext w) (hOne all top) (f + pre.length) l a w := by
  intro pre
  induction pre with
  | nil =>
    intro l a w hin hall hc hok htop hT f hf
    exact (plan_sound2 all top hph hsel hQ top l a w hc (fun j hj => (hall j hj).resolve_right (by simp)) hm hT).1 htop f hf
  | cons i t ih =>
    intro l a w hin hall hc hok htop hT f hf
    simp only [preOK, Bool.and_eq_true] at hok
    obtain ⟨⟨⟨hlt, hfr⟩, hrd⟩, hok⟩ := hok
    have hlt' : i < ops.size := by simpa [Nat.blt_eq] using hlt
    have hop : ops[i]? = some (ops.getD i default) := by simp [hlt']
    have hrd' : i ∈ Region.ready .any ops l := by simpa using hrd
    simp only [List.map_cons, wpPre] at hT
    obtain ⟨v, hy, hT⟩ := hT
    have hI := ih (l.setIfInBounds i true) _ w (fun j hj => hin j (List.mem_cons_of_mem _ hj)) (fun j hj => by
      rcases hall j hj with h | h
      · exact .inl (getD_setF h)
      · rcases List.mem_cons.1 h with h | h
        · subst h
          left
          have h0 := (mem_ready.1 hrd').1
          have : j < l.size := by
            rcases Nat.lt_or_ge j l.size with h' | h'
            · exact h'
            · simp [Array.getElem?_eq_none h'] at h0
          simp [this]
        · exact .inr h) (hc.set hrd') hok htop hT f hf
    have := G_firstP (S := Ext w) (h1 := hOne all top) hop (by unfold hOne; rw [hin i (by simp)]; simp) hsel (fun c a w h => hQ c a w _ _ h) (f + t.length) l a w (Region.free_spec hop hfr) hrd' hy hI
    simpa [Nat.add_assoc] using this
end
def wholeP (pre : List Nat) (p : Plan) (ops : Array Oper) : Bool :=
  preOK ops pre (Array.replicate ops.size false) && p.ok ops false (preEnd pre (Array.replicate ops.size false)) && modesIn p p && Nat.ble (p.len + pre.length) ops.size && Region.noSelect ops &&
  (List.range ops.size).all fun j => !p.isFin j || (List.range ops.size).all fun i => p.isFin i || pre.contains i || waits ops ops.size j i
section
variable {P : Program} {n : Nat} {Q : Exit → Act → World → Prop} {L : Frm} {w : World}
def WPre (P : Program) (n : Nat) (ops : Array Oper) (Q : Exit → Act → World → Prop) (l : List Oper) (T : IT) (L : Frm) (w : World) : Prop := ∀ a, Env n L a → wpPre P ops Q l T a w
theorem w_drawP {id : Nat} {ops : Array Oper} (pre : List Nat) (p : Plan) (hm : P.follows .mixedOrders = true) (hp : wholeP pre p ops = true) (h : ∀ w', Ext w w' → WPre P n ops (NoP Q) (pre.map fun i => ops.getD i default) (p.tree ops) L w') : W P n Q (.region id ops true) L w := by
  intro a ha
  refine wp_mono (wp_region_any hm ?_) (fun e a w h => NoP.out h)
  simp only [wholeP, Bool.and_eq_true] at hp
  obtain ⟨⟨⟨⟨⟨h0, h1⟩, h2⟩, h3⟩, h4⟩, h5⟩ := hp
  have hph : ∀ j i, p.isFin j = true → p.isFin i = false → pre.contains i = false → j < ops.size → i < ops.size → waits ops ops.size j i = true := by
    intro j i hj hi hpi hjs his
    have h6 := List.all_eq_true.1 h5 j (List.mem_range.2 hjs)
    rw [hj] at h6
    simp only [Bool.not_true, Bool.false_or] at h6
    have h7 := List.all_eq_true.1 h6 i (List.mem_range.2 his)
    rw [hi, hpi] at h7
    simpa using h7
  have hc : Closed ops (Array.replicate ops.size false) := by
    intro j o _ hj
    exfalso
    rcases Nat.lt_or_ge j ops.size with h' | h'
    · simp [h'] at hj
    · simp [Array.getElem?_eq_none (xs := Array.replicate ops.size false) (i := j) (by simpa using h')] at hj
  have h3' : p.len + pre.length ≤ ops.size := by simpa using h3
  have := pre_sound (Q := NoP Q) p pre (Region.noSelect_spec h4) (fun c a w d v h => h) hph h2 pre _ a w.drew (fun i hi => by simpa using hi) (fun i hi => .inr (by simpa using hi)) hc h0 h1 (h w.drew (below_drew w) a ha) (ops.size - pre.length) (by omega)
  rw [Nat.sub_add_cancel (by omega)] at this
  exact wpAny_of_G _ _ _ _ this
variable {ops : Array Oper} {l : List Oper} {T : IT} {d : Nat} {ty : TypeId} {pos : String} {af : Array Edge}
theorem p_done (h : WT P n ops Q T L w) : WPre P n ops Q [] T L w := h
theorem p_read {op : Op} {v : Value} (h : ∀ a, Env n L a → ∀ dst af gd w', (execOp a.eval ⟨dst, op, ty, pos, af, gd⟩).run P w' = .ok (.value v) w') (k : WPre P n ops Q l T ((d, v) :: L) w) (hn : Nat.blt d n = true) : WPre P n ops Q (⟨some d, op, ty, pos, af, none⟩ :: l) T L w := by
  intro a ha
  exact ⟨v, .inl ⟨rfl, fun w' _ => h a ha _ _ _ w'⟩, k _ (ha.put hn v)⟩
theorem p_move {x : Operand} {v : Value} (hx : ev L x = some v) (k : WPre P n ops Q l T ((d, v) :: L) w) (hn : Nat.blt d n = true) : WPre P n ops Q (⟨some d, .move x, ty, pos, af, none⟩ :: l) T L w :=
  p_read (fun a ha _ _ _ w' => by simp [execOp, ha.ev hx]) k hn
theorem p_sltv {t e : TypeId} {size bytes : Nat} (et : ElemT P t e size bytes) {A : Option Addr} {nn c : Nat} {xo hi : Operand} {k : Nat} {i : Int} (hx : ev L xo = some (.slice A nn c)) (hi' : ev L hi = some (I i)) (hik : i = ((k : Nat) : Int)) (hk : k ≤ c)
    (kk : WPre P n ops Q l T ((d, .slice A k c) :: L) w) (hn : Nat.blt d n = true) : WPre P n ops Q (⟨some d, .slice t xo none (some hi) none, ty, pos, af, none⟩ :: l) T L w := by
  obtain ⟨inf, z, hinf, _, hsz, _, _⟩ := et.info
  subst hik
  refine p_read (v := .slice A k c) (fun a ha _ _ _ w' => ?_) kk hn
  have hc : (0 : Int) ≤ (k : Int) ∧ (k : Int) ≤ (c : Int) := by omega
  cases A <;> simp [execOp, ha.ev hx, ha.ev hi', Instr.sliceAt, Instr.slice, Instr.sliceBounds, Instr.sliceBound, asIntOf, run_underlying et.und, hk, sizeOf, typeInfo, hinf, Addr.add]
theorem p_sldv {t e : TypeId} {size bytes : Nat} (et : ElemT P t e size bytes) {A : Option Addr} {nn c : Nat} {xo lo : Operand} {k : Nat} {i : Int} (hx : ev L xo = some (.slice A nn c)) (hi' : ev L lo = some (I i)) (hik : i = ((k : Nat) : Int)) (hk : k ≤ nn) (hc : nn ≤ c)
    (kk : WPre P n ops Q l T ((d, .slice (if c = k then A else A.map (·.add (k * size))) (nn - k) (c - k)) :: L) w) (hn : Nat.blt d n = true) : WPre P n ops Q (⟨some d, .slice t xo (some lo) none none, ty, pos, af, none⟩ :: l) T L w := by
  obtain ⟨inf, z, hinf, _, hsz, _, _⟩ := et.info
  subst hik
  refine p_read (fun a ha _ _ _ w' => ?_) kk hn
  have hc' : (0 : Int) ≤ (k : Int) ∧ (k : Int) ≤ (nn : Int) := by omega
  simp [execOp, ha.ev hx, ha.ev hi', Instr.sliceAt, Instr.slice, Instr.sliceBounds, Instr.sliceBound, asIntOf, run_underlying et.und, hk, sizeOf, typeInfo, hinf, hsz]
end
end Go.Proofs.Ytdaecknfahgddaa
namespace Go.Proofs.Ytdaecknfahgddaa
open Go.RowKit
set_option linter.unusedVariables false
theorem app0_eq {P : Program} (w : World) {t ty e : TypeId} {size bytes : Nat} (et : ElemT P t e size bytes) {A0 A : Option Addr} {m c : Nat} (hm : 0 < m) (hby : m * bytes ≤ 140737488355328) (h63 : m ≤ maxLen) :
    (Builtin.append_ #[t, t] ty #[.slice A0 0 0, .slice A m c]).run P w = (Builtin.append_ #[t, t] ty #[.slice none 0 0, .slice A m c]).run P w := by
  obtain ⟨ht, ⟨i, z, hi, hz, hsize, hby', hzs⟩, hsz⟩ := et
  subst hby'
  simp only [maxLen] at h63
  have h0 : ¬ m = 0 := by omega
  have h1 : ¬ (9223372036854775807 : Int) < (m : Int) := by omega
  have h2 : ¬ 281474976710656 < Builtin.nextslicecap m 0 * i.bytes := by have := growslice_fits (need := m) (old := 0) hm hby; omega
  cases A0 <;> simp [Builtin.append_, run_underlying ht, sizeOf, typeInfo, hi, Builtin.lenOf, Builtin.firstCells, h0, h1, h2, loadCells, loadCellsFrom]
/-- append of owned elements onto an empty literal: only new memory. -/
theorem t_mv0 {P : Program} {n : Nat} {ops : Array Oper} {Q : Exit → Act → World → Prop} {L : Frm} {w : World} {r : IT} {d : Nat} {ty : TypeId} {pos : String} {af : Array Edge} {b : Nat} {os : List Ow}
    {α : Type} {T : Ty α} {t e : TypeId} {bytes : Nat} (et : ElemT P t e T.size bytes) {s x : Operand} {ar : Array TypeId} {A0 A : Option Addr} {c mm : Nat} {css : List (List Value)} {l' : List α} (S : Sep b w (slO T e (.slice A0 0 0) ([] : List α) :: elsO T css l' :: os)) (hr : Rd w A css.flatten) (hm : mm = l'.length) (hs : ev L s = some (.slice A0 0 0)) (hx : ev L x = some (.slice A mm c)) (har : ar = #[t, t])
    (hby : l'.length * bytes ≤ 140737488355328) (h63 : l'.length ≤ maxLen)
    (k : ∀ v' w', Ext w w' → Sep b w' (slO T e v' ([] ++ l') :: os) → WT P n ops Q r ((d, v') :: L) w') (hn : Nat.blt d n = true) : WT P n ops Q (.st .run ⟨some d, .call ⟨.builtin .append, #[s, x], ar⟩, ty, pos, af, none⟩ r) L w := by
  intro a ha
  subst har
  subst hm
  have hb := S.base
  obtain ⟨h1, fp, f, g, rfl, hf0, ⟨f2, g2, rfl, ⟨fps2, q1, q2, q4, q5, q6⟩, m2, m3⟩, h6⟩ := S
  have hR : ∀ (i : Nat) cs a, css[i]? = some cs → l'[i]? = some a → T.R w cs a := fun i cs a hi ha => by
    have hlt : i < fps2.length := by rw [q2]; exact (List.getElem?_eq_some_iff.1 ha).1
    exact T.read _ _ _ _ _ (q4 i cs a _ hi ha (List.getElem?_eq_getElem hlt))
  have hall : ∀ (i : Nat) cs, css[i]? = some cs → cs.length = T.size := fun i cs hi => by
    have hl : i < css.length := (List.getElem?_eq_some_iff.1 hi).1
    exact T.len _ _ _ (hR i cs _ hi (List.getElem?_eq_getElem (by omega)))
  have h11 : ∀ u ∈ css.flatten, u.oneCell' = true := fun u hu => by
    obtain ⟨cs, hcs, hu⟩ := List.mem_flatten.1 hu
    obtain ⟨i, hi, rfl⟩ := List.getElem_of_mem hcs
    exact T.one _ _ _ (hR i _ _ (List.getElem?_eq_getElem hi) (List.getElem?_eq_getElem (by omega))) u hu
  have hnil : w.ownsRow b e T.size (.slice none 0 0) 0 [] := World.ownsRow_nil w b e T.size
  simp only [wpT, Region.wanted, if_true]
  rcases Nat.eq_zero_or_pos l'.length with hz | hz
  · have hl0 : l' = [] := List.eq_nil_of_length_eq_zero hz
    subst hl0
    obtain ⟨ht, ⟨i, z, hi, hzz, hsize, hbb, hzs⟩, hsz⟩ := et
    have hrun : (execOp a.eval ⟨some d, .call ⟨.builtin .append, #[s, x], #[t, t]⟩, ty, pos, af, none⟩).run P w = .ok (.value (.slice A0 0 0)) w := by
      cases A0 <;> cases A <;> simp [execOp, resolve, invoke, builtin, ha.ev hs, ha.ev hx, Builtin.append_, run_underlying ht, sizeOf, typeInfo, hi, Builtin.lenOf, Builtin.firstCells, loadCells, loadCellsFrom, storeCells]
    unfold Oper.wp
    rw [hrun]
    refine ⟨Below.refl _ _, k _ w (Below.refl _ _) ?_ _ (ha.put hn _)⟩
    exact ⟨hb, f ++ g2, f, g2, rfl, hf0, m2, fun z hz hy => h6 z hz (List.mem_append.2 (.inr hy))⟩
  · obtain ⟨v', w', hrun, ho', hg', hv'⟩ := run_app (P := P) w (ty := ty) (c := c) et hnil hr (by rw [flatten_len hall, q1]) h11 (by rw [Nat.zero_add]; exact hby) (by rw [Nat.zero_add]; exact h63) hb
    rw [← app0_eq (A0 := A0) w et hz hby h63] at hrun
    obtain ⟨fp', g1, g2', g3⟩ := SlO.grow (T := T) (e := e) (base := b) (v := .slice none 0 0) (l := []) (css := []) (fps := []) (fp := []) (css' := css) (fps' := fps2) (l' := l') (m := l'.length) rfl rfl hnil (fun i cs a f hi => by simp at hi) rfl List.nodup_nil q1 q2 q4 (by rw [← q5]; exact q6) (fun y _ hy => by cases hy) rfl ho' hg' hv'
    rw [← q5] at g2'
    have hE : Ext w w' := ⟨g3.os, g3.tape, g3.output, g3.size, fun y hy => g3.block y hy (fun h => by cases h)⟩
    unfold Oper.wp execOp
    simp only [resolve, invoke, builtin, Sem.run_bind, Sem.run_pure, Result.andThen_ok, List.map_toArray, List.map_cons, List.map_nil, ha.ev hs, ha.ev hx, hrun]
    refine ⟨hE, k v' w' hE ⟨Nat.le_trans hb g3.size, fp' ++ g2, fp', g2, rfl, g1, m2.keep fun y hy => hE.block y (m2.lt y hy).2, fun z hz' hy => ?_⟩ _ (ha.put hn v')⟩
    rcases g2' z hz' with h | h | h
    · cases h
    · exact m3 z h hy
    · have := (m2.lt z hy).2; omega
end Go.Proofs.Ytdaecknfahgddaa
