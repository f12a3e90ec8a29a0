/- Chaining values of path parts: BetaAfter, of the program and of the reference. -/
import Derived.Test.YtfgobdejlfojiaaWkA
import Derived.Test.YtfgobdejlfojiaaPartEnds
namespace Go.Proofs.Ytfgobdejlfojiaa
open Go.RowKit
set_option linter.unusedVariables false
set_option maxRecDepth 20000

def betaStep (rev : Bool) (b : Int) (h : Hop) : Int := if rev then subM b h.mac else addM b h.mac
def betaFold (p : Part) (l : List Hop) : Int := l.foldl (betaStep (isRev p.kind)) p.beta
def betaAfter (p : Part) (i : Int) : Int := if inR i 0 p.hops.length then betaFold p (p.hops.take i.toNat) else 0
theorem betaFold_succ {p : Part} {l : List Hop} {k : Nat} {x : Hop} (h : l[k]? = some x) : betaFold p (l.take (k + 1)) = betaStep (isRev p.kind) (betaFold p (l.take k)) x := by
  unfold betaFold; rw [take_succ h, List.foldl_append]; rfl


theorem impl_BetaAfter (p : Part) (v : Value) (i : Int) (w : World) (h : VA partT w v p) (hz : p.hops.length ≤ 1048576) : Calls Try.prog 182 #[v, I i] w fun e w' => e = .returned (I (betaAfter p i)) ∧ Below w.heap.size w w' := by
  have X0 := Below.refl w.heap.size w
  refine enter Try.func182 rfl Try.ntmps182 rfl ?_
  refine w_seq ?_
  refine w_region ?_
  refine t_boxr (by assumption) rfl ?_ rfl rfl
  intro p2 w1 x2 hp2
  replace h := h.below x2
  have X0 := ext_trans X0 x2
  have S := Sep.nil w1
  have B := Below.refl w1.heap.size w1
  have Hb := Nat.le_refl w1.heap.size
  refine t_assign rfl ?_ rfl
  refine t_done ?_
  refine x_seq ?_
  refine w_seq ?_
  refine w_seq ?_
  refine w_region ?_
  refine t_move rfl ?_ rfl
  refine t_fld ln_part_3 (by assumption) fb_part_3 rfl ?_ rfl
  intro p9 hp9
  refine t_lds (by assumption) ab_s_hop B rfl ?_ rfl
  intro v10 hv10
  refine t_len e_hop (by assumption) rfl rfl ?_ rfl
  refine t_calls Try.call70 rfl (impl_InRange _ _ _ _) ?_ rfl rfl
  refine t_notb rfl ?_ rfl
  refine t_done ?_
  refine x_seq ?_
  refine w_ifb rfl ?_ ?_
  · intro h1
    have h1' : inR i 0 p.hops.length = false := by simpa using h1
    refine w_seq ?_
    refine w_region ?_
    refine t_assign rfl ?_ rfl
    refine t_done ?_
    refine x_seq ?_
    refine w_ret ?_
    refine x_then_ret ?_
    refine x_ret1 rfl rfl ?_
    exact ⟨ret_int (by simp [betaAfter, h1']), X0⟩
  · intro h1
    have h1' : inR i 0 p.hops.length = true := by simpa using h1
    have r1 := inR_iff.1 h1'
    obtain ⟨n, rfl⟩ : ∃ n : Nat, i = n := ⟨i.toNat, by omega⟩
    have hl : (p.hops.take n).length = n := by rw [List.length_take]; omega
    refine w_skip ?_
    refine x_seq ?_
    refine w_seq ?_
    refine w_region ?_
    refine t_fld ln_part_2 (by assumption) fb_part_2 rfl ?_ rfl
    intro p14 hp14
    refine t_ldi (by assumption) ab_int B rfl ?_ rfl
    refine t_assign rfl ?_ rfl
    refine t_done ?_
    refine x_seq ?_
    refine w_seq ?_
    refine w_seq ?_
    refine w_region ?_
    refine t_fld ln_part_3 (by assumption) fb_part_3 rfl ?_ rfl
    intro p16 hp16
    refine t_lds (by assumption) ab_s_hop B rfl ?_ rfl
    intro v17 hv17
    refine t_move rfl ?_ rfl
    refine t_slt e_hop (k := n) (by assumption) rfl rfl (by first | rfl | omega) (by omega) ?_ rfl
    intro v19 hv19
    refine t_len e_hop (by assumption) rfl rfl ?_ rfl
    refine t_move rfl ?_ rfl
    refine t_done ?_
    refine x_seq ?_
    refine w_block ?_
    refine w_loop (X := Nat × Int) (fun x wq => (fun k b => k ≤ n ∧ b = betaFold p ((p.hops.take n).take k) ∧ Below w1.heap.size w1 wq ∧ Sep w1.heap.size wq []) x.1 x.2) (fun x => (fun k b => [(21, I ((k : Int))), (5, I b), (2, p2), (4, I 0), (19, v19), (20, I (((p.hops.take n).length : Int)))]) x.1 x.2) (fun x => (fun k b => n - k) x.1 x.2) (0, p.beta) ?_ ⟨rfl, rfl, rfl, rfl, rfl, rfl, trivial⟩ ?_
    · exact ⟨by omega, rfl, B, S⟩
    · rintro ⟨k, b⟩ w3 hI
      try dsimp only at hI ⊢
      obtain ⟨hk, hb, B, S⟩ := hI
      refine w_seq ?_
      refine w_region ?_
      refine t_lss rfl rfl ?_ rfl
      refine t_done ?_
      refine x_seq ?_
      refine w_seq ?_
      refine w_if rfl ?_ ?_
      · intro hlt
        refine w_skip ?_
        refine x_seq ?_
        refine w_seq ?_
        refine w_block ?_
        refine w_seq ?_
        refine w_region ?_
        obtain ⟨e23, he23⟩ : ∃ e, (p.hops.take n)[k]? = some e := getx (by omega)
        refine t_idx e_hop (k := k) (by assumption) he23 B rfl rfl (by first | rfl | omega) ?_ rfl
        intro p23 hp23
        refine t_lda (by assumption) ab_hop sb_hop B rfl ?_ rfl
        intro v24 hv24
        obtain rfl := hop_va hv24
        refine t_alloc S z_hop rfl ?_ rfl rfl
        intro g7 w4 x5 S
        have B := bx Hb B x5
        refine t_stn S sb_hop rfl rfl rfl rfl (by simp [Value.oneCell']) ?_
        intro w6 b7 S
        have B := B.trans b7
        refine t_done ?_
        refine x_seq ?_
        refine w_seq ?_
        refine w_region ?_
        refine t_fld ln_part_0 (by assumption) fb_part_0 rfl ?_ rfl
        intro p25 hp25
        refine t_ldi (by assumption) ab_int B rfl ?_ rfl
        refine t_calls Try.call177 rfl (impl_IsReversed _ _) ?_ rfl rfl
        refine t_done ?_
        refine x_seq ?_
        have hs := betaFold_succ (p := p) he23
        refine w_ifb rfl ?_ ?_
        · intro hr
          refine w_region ?_
          refine t_move rfl ?_ rfl
          refine t_fldx fb_hop_4 rfl rfl ?_ rfl
          refine t_bx1 S.box ab_int rfl rfl ?_ rfl
          refine t_calls Try.call195 rfl (impl_SubMod _ _ _) ?_ rfl rfl
          refine t_assign rfl ?_ rfl
          refine t_done ?_
          refine x_block_normal ?_
          refine x_seq ?_
          refine w_region ?_
          refine t_add rfl rfl (by omega) ?_ rfl
          refine t_move rfl ?_ rfl
          refine t_done ?_
          have S := S.tail
          refine x_round (I := (fun x wq => (fun k b => k ≤ n ∧ b = betaFold p ((p.hops.take n).take k) ∧ Below w1.heap.size w1 wq ∧ Sep w1.heap.size wq []) x.1 x.2)) (F := (fun x => (fun k b => [(21, I ((k : Int))), (5, I b), (2, p2), (4, I 0), (19, v19), (20, I (((p.hops.take n).length : Int)))]) x.1 x.2)) (μ := (fun x => (fun k b => n - k) x.1 x.2)) (k + 1, subM b e23.mac) ?_ (by exact ⟨rfl, rfl, rfl, rfl, rfl, rfl, trivial⟩) (by (try dsimp only); omega)
          try dsimp only
          exact ⟨by omega, by rw [hs, ← hb, betaStep, hr]; rfl, B, S⟩
        · intro hr
          refine w_region ?_
          refine t_move rfl ?_ rfl
          refine t_fldx fb_hop_4 rfl rfl ?_ rfl
          refine t_bx1 S.box ab_int rfl rfl ?_ rfl
          refine t_calls Try.call196 rfl (impl_AddMod _ _ _) ?_ rfl rfl
          refine t_assign rfl ?_ rfl
          refine t_done ?_
          refine x_block_normal ?_
          refine x_seq ?_
          refine w_region ?_
          refine t_add rfl rfl (by omega) ?_ rfl
          refine t_move rfl ?_ rfl
          refine t_done ?_
          have S := S.tail
          refine x_round (I := (fun x wq => (fun k b => k ≤ n ∧ b = betaFold p ((p.hops.take n).take k) ∧ Below w1.heap.size w1 wq ∧ Sep w1.heap.size wq []) x.1 x.2)) (F := (fun x => (fun k b => [(21, I ((k : Int))), (5, I b), (2, p2), (4, I 0), (19, v19), (20, I (((p.hops.take n).length : Int)))]) x.1 x.2)) (μ := (fun x => (fun k b => n - k) x.1 x.2)) (k + 1, addM b e23.mac) ?_ (by exact ⟨rfl, rfl, rfl, rfl, rfl, rfl, trivial⟩) (by (try dsimp only); omega)
          try dsimp only
          exact ⟨by omega, by rw [hs, ← hb, betaStep, hr]; rfl, B, S⟩
      · intro hge
        refine w_exit ?_
        refine x_then_exit ?_
        refine x_then_exit ?_
        refine x_block_exit ?_
        refine x_seq ?_
        refine w_seq ?_
        refine w_region ?_
        refine t_move rfl ?_ rfl
        refine t_assign rfl ?_ rfl
        refine t_done ?_
        refine x_seq ?_
        refine w_ret ?_
        refine x_ret1 rfl rfl ?_
        refine ⟨ret_int ?_, ext_trans X0 B⟩
        rw [betaAfter, h1', if_pos rfl, hb, List.take_of_length_le (by omega)]
        rfl

theorem spec_BetaAfter (p : Part) (v : Value) (i : Int) (w : World) (h : VA partT w v p) (hz : p.hops.length ≤ 1048576) : Calls Try.prog 194 #[v, I i] w fun e w' => e = .returned (I (betaAfter p i)) ∧ Below w.heap.size w w' := by
  have X0 := Below.refl w.heap.size w
  refine enter Try.func194 rfl Try.ntmps194 rfl ?_
  refine w_seq ?_
  refine w_region ?_
  refine t_boxr (by assumption) rfl ?_ rfl rfl
  intro p2 w8 x9 hp2
  replace h := h.below x9
  have X0 := ext_trans X0 x9
  have S := Sep.nil w8
  have B := Below.refl w8.heap.size w8
  have Hb := Nat.le_refl w8.heap.size
  refine t_assign rfl ?_ rfl
  refine t_done ?_
  refine x_seq ?_
  refine w_seq ?_
  refine w_seq ?_
  refine w_region ?_
  refine t_move rfl ?_ rfl
  refine t_fld ln_part_3 (by assumption) fb_part_3 rfl ?_ rfl
  intro p8 hp8
  refine t_lds (by assumption) ab_s_hop B rfl ?_ rfl
  intro v9 hv9
  refine t_len e_hop (by assumption) rfl rfl ?_ rfl
  refine t_calls Try.call64 rfl (spec_l1In _ _ _ _) ?_ rfl rfl
  refine t_notb rfl ?_ rfl
  refine t_done ?_
  refine x_seq ?_
  refine w_ifb rfl ?_ ?_
  · intro h1
    have h1' : inR i 0 p.hops.length = false := by simpa using h1
    refine w_seq ?_
    refine w_region ?_
    refine t_assign rfl ?_ rfl
    refine t_done ?_
    refine x_seq ?_
    refine w_ret ?_
    refine x_then_ret ?_
    refine x_ret1 rfl rfl ?_
    exact ⟨ret_int (by simp [betaAfter, h1']), X0⟩
  · intro h1
    have h1' : inR i 0 p.hops.length = true := by simpa using h1
    have r1 := inR_iff.1 h1'
    obtain ⟨n, rfl⟩ : ∃ n : Nat, i = n := ⟨i.toNat, by omega⟩
    refine w_skip ?_
    refine x_seq ?_
    refine w_seq ?_
    refine w_region ?_
    refine t_fld ln_part_2 (by assumption) fb_part_2 rfl ?_ rfl
    intro p13 hp13
    refine t_ldi (by assumption) ab_int B rfl ?_ rfl
    refine t_assign rfl ?_ rfl
    refine t_done ?_
    refine x_seq ?_
    refine w_seq ?_
    refine w_seq ?_
    refine w_region ?_
    refine t_assign rfl ?_ rfl
    refine t_done ?_
    refine x_seq ?_
    refine w_block ?_
    refine w_loop (X := Nat × Int) (fun x wq => (fun k b => k ≤ n ∧ b = betaFold p (p.hops.take k) ∧ Below w8.heap.size w8 wq ∧ Sep w8.heap.size wq []) x.1 x.2) (fun x => (fun k b => [(6, I ((k : Int))), (5, I b), (1, I ((n : Int))), (2, p2), (4, I 0)]) x.1 x.2) (fun x => (fun k b => n - k) x.1 x.2) (0, p.beta) ?_ ⟨rfl, rfl, rfl, rfl, rfl, trivial⟩ ?_
    · exact ⟨by omega, rfl, B, S⟩
    · rintro ⟨k, b⟩ w10 hI
      try dsimp only at hI ⊢
      obtain ⟨hk, hb, B, S⟩ := hI
      refine w_seq ?_
      refine w_seq ?_
      refine w_region ?_
      refine t_move rfl ?_ rfl
      refine t_move rfl ?_ rfl
      refine t_lss rfl rfl ?_ rfl
      refine t_done ?_
      refine x_seq ?_
      refine w_if rfl ?_ ?_
      · intro hlt
        refine w_skip ?_
        refine x_seq ?_
        refine w_seq ?_
        refine w_block ?_
        refine w_seq ?_
        refine w_region ?_
        refine t_fld ln_part_0 (by assumption) fb_part_0 rfl ?_ rfl
        intro p20 hp20
        refine t_ldi (by assumption) ab_int B rfl ?_ rfl
        refine t_calls Try.call173 rfl (spec_IsReversed _ _) ?_ rfl rfl
        refine t_done ?_
        refine x_seq ?_
        refine w_ifb rfl ?_ ?_
        · intro hr
          refine w_region ?_
          refine t_move rfl ?_ rfl
          refine t_fld ln_part_3 (by assumption) fb_part_3 rfl ?_ rfl
          intro p24 hp24
          refine t_lds (by assumption) ab_s_hop B rfl ?_ rfl
          intro v25 hv25
          refine t_move rfl ?_ rfl
          obtain ⟨e27, he27⟩ : ∃ e, (p.hops)[k]? = some e := getx (by omega)
          refine t_idx e_hop (k := k) (by assumption) he27 B rfl rfl (by first | rfl | omega) ?_ rfl
          intro p27 hp27
          refine t_fld ln_hop_4 (by assumption) fb_hop_4 rfl ?_ rfl
          intro p28 hp28
          refine t_ldi (by assumption) ab_int B rfl ?_ rfl
          refine t_calls Try.call201 rfl (spec_SubMod _ _ _) ?_ rfl rfl
          refine t_assign rfl ?_ rfl
          refine t_done ?_
          refine x_block_normal ?_
          refine x_seq ?_
          refine w_region ?_
          refine t_move rfl ?_ rfl
          refine t_add rfl rfl (by omega) ?_ rfl
          refine t_assign rfl ?_ rfl
          refine t_done ?_
          have hs := betaFold_succ (p := p) he27
          refine x_round (I := (fun x wq => (fun k b => k ≤ n ∧ b = betaFold p (p.hops.take k) ∧ Below w8.heap.size w8 wq ∧ Sep w8.heap.size wq []) x.1 x.2)) (F := (fun x => (fun k b => [(6, I ((k : Int))), (5, I b), (1, I ((n : Int))), (2, p2), (4, I 0)]) x.1 x.2)) (μ := (fun x => (fun k b => n - k) x.1 x.2)) (k + 1, subM b e27.mac) ?_ (by exact ⟨rfl, rfl, rfl, rfl, rfl, trivial⟩) (by (try dsimp only); omega)
          try dsimp only
          exact ⟨by omega, by rw [hs, ← hb, betaStep, hr]; rfl, B, S⟩
        · intro hr
          refine w_region ?_
          refine t_move rfl ?_ rfl
          refine t_fld ln_part_3 (by assumption) fb_part_3 rfl ?_ rfl
          intro p32 hp32
          refine t_lds (by assumption) ab_s_hop B rfl ?_ rfl
          intro v33 hv33
          refine t_move rfl ?_ rfl
          obtain ⟨e35, he35⟩ : ∃ e, (p.hops)[k]? = some e := getx (by omega)
          refine t_idx e_hop (k := k) (by assumption) he35 B rfl rfl (by first | rfl | omega) ?_ rfl
          intro p35 hp35
          refine t_fld ln_hop_4 (by assumption) fb_hop_4 rfl ?_ rfl
          intro p36 hp36
          refine t_ldi (by assumption) ab_int B rfl ?_ rfl
          refine t_calls Try.call202 rfl (spec_AddMod _ _ _) ?_ rfl rfl
          refine t_assign rfl ?_ rfl
          refine t_done ?_
          refine x_block_normal ?_
          refine x_seq ?_
          refine w_region ?_
          refine t_move rfl ?_ rfl
          refine t_add rfl rfl (by omega) ?_ rfl
          refine t_assign rfl ?_ rfl
          refine t_done ?_
          have hs := betaFold_succ (p := p) he35
          refine x_round (I := (fun x wq => (fun k b => k ≤ n ∧ b = betaFold p (p.hops.take k) ∧ Below w8.heap.size w8 wq ∧ Sep w8.heap.size wq []) x.1 x.2)) (F := (fun x => (fun k b => [(6, I ((k : Int))), (5, I b), (1, I ((n : Int))), (2, p2), (4, I 0)]) x.1 x.2)) (μ := (fun x => (fun k b => n - k) x.1 x.2)) (k + 1, addM b e35.mac) ?_ (by exact ⟨rfl, rfl, rfl, rfl, rfl, trivial⟩) (by (try dsimp only); omega)
          try dsimp only
          exact ⟨by omega, by rw [hs, ← hb, betaStep, hr]; rfl, B, S⟩
      · intro hge
        refine w_exit ?_
        refine x_then_exit ?_
        refine x_then_exit ?_
        refine x_block_exit ?_
        refine x_seq ?_
        refine w_seq ?_
        refine w_region ?_
        refine t_move rfl ?_ rfl
        refine t_assign rfl ?_ rfl
        refine t_done ?_
        refine x_seq ?_
        refine w_ret ?_
        refine x_ret1 rfl rfl ?_
        have : k = n := by omega
        subst this
        refine ⟨ret_int ?_, ext_trans X0 B⟩
        rw [betaAfter, h1', if_pos rfl, hb]
        rfl

/-- What the code of a hop is reckoned with. -/
def hopBeta (p : Part) (i : Int) : Int := if isRev p.kind then betaAfter p (i + 1) else betaAfter p i
theorem spec_l21Beta (p : Part) (v : Value) (i : Int) (w : World) (h : VA partT w v p) (hz : p.hops.length ≤ 1048576) (hi : 0 ≤ i ∧ i ≤ 1048576) : Calls Try.prog 181 #[v, I i] w fun e w' => e = .returned (I (hopBeta p i)) ∧ Below w.heap.size w w' := by
  have X0 := Below.refl w.heap.size w
  refine enter Try.func181 rfl Try.ntmps181 rfl ?_
  refine w_seq ?_
  refine w_region ?_
  refine t_boxr (by assumption) rfl ?_ rfl rfl
  intro p2 w11 x12 hp2
  replace h := h.below x12
  have X0 := ext_trans X0 x12
  have S := Sep.nil w11
  have B := Below.refl w11.heap.size w11
  have Hb := Nat.le_refl w11.heap.size
  refine t_assign rfl ?_ rfl
  refine t_done ?_
  refine x_seq ?_
  refine w_seq ?_
  refine w_seq ?_
  refine w_region ?_
  refine t_fld ln_part_0 (by assumption) fb_part_0 rfl ?_ rfl
  intro p5 hp5
  refine t_ldi (by assumption) ab_int B rfl ?_ rfl
  refine t_calls Try.call173 rfl (spec_IsReversed _ _) ?_ rfl rfl
  refine t_done ?_
  refine x_seq ?_
  refine w_ifb rfl ?_ ?_
  · intro hr
    refine w_seq ?_
    refine w_region ?_
    refine t_lda (by assumption) ab_part sb_part B rfl ?_ rfl
    intro v8 hv8
    obtain ⟨v8_3, rfl, hv8_3⟩ := part_va hv8
    refine t_move rfl ?_ rfl
    refine t_add rfl rfl (by omega) ?_ rfl
    refine t_callx Try.call194 rfl (spec_BetaAfter _ _ _ _ (by first | assumption | exact VA.below (by assumption) B) (by omega)) ?_ rfl rfl
    intro w13 x14
    have B := bx Hb B x14
    have S := S.below x14
    refine t_assign rfl ?_ rfl
    refine t_done ?_
    refine x_seq ?_
    refine w_ret ?_
    refine x_then_ret ?_
    refine x_ret1 rfl rfl ?_
    exact ⟨by simp [hopBeta, hr], ext_trans X0 B⟩
  · intro hr
    refine w_skip ?_
    refine x_seq ?_
    refine w_seq ?_
    refine w_region ?_
    refine t_lda (by assumption) ab_part sb_part B rfl ?_ rfl
    intro v12 hv12
    obtain ⟨v12_3, rfl, hv12_3⟩ := part_va hv12
    refine t_move rfl ?_ rfl
    refine t_callx Try.call194 rfl (spec_BetaAfter _ _ _ _ (by first | assumption | exact VA.below (by assumption) B) (by omega)) ?_ rfl rfl
    intro w15 x16
    have B := bx Hb B x16
    have S := S.below x16
    refine t_assign rfl ?_ rfl
    refine t_done ?_
    refine x_seq ?_
    refine w_ret ?_
    refine x_ret1 rfl rfl ?_
    exact ⟨by simp [hopBeta, hr], ext_trans X0 B⟩

def computeMac (key : Int) (l : List Int) : Int := digest ([key] ++ l ++ [key])
def hopMac (key ts beta : Int) (h : Hop) : Int := computeMac key [ts, beta, h.ia, h.ing, h.eg, h.exp]
theorem impl_ComputeMAC (key : Int) (l : List Int) (v : Value) (w : World) (h : SlR intT w v l) (hn : l.length ≤ 1048576) : Calls Try.prog 203 #[I key, v] w fun e w' => e = .returned (I (computeMac key l)) ∧ Below w.heap.size w w' := by
  have X0 := Below.refl w.heap.size w
  refine enter Try.func203 rfl Try.ntmps203 rfl ?_
  refine w_seq ?_
  refine w_region ?_
  have S := Sep.nil w
  have B := Below.refl w.heap.size w
  have Hb := Nat.le_refl w.heap.size
  refine t_assign rfl ?_ rfl
  refine t_done ?_
  refine x_seq ?_
  refine w_seq ?_
  refine w_region ?_
  refine t_move rfl ?_ rfl
  refine t_lit (T := intT) (l := [key]) (css := ([key]).map fun a => [I a]) int_flat S (fun w => bs_int1 _ w) rfl rfl rfl rfl (by simp [maxLen]) (litR_int _) ?_ rfl rfl
  intro u6 w17 x18 S
  have B := bx Hb B x18
  refine t_move rfl ?_ rfl
  refine t_cat int_flat e_int S (by first | assumption | exact SlR.below (by assumption) B) rfl rfl rfl (by first | omega | (simp [-List.length_flatMap]; omega)) (by (simp [maxLen, -List.length_flatMap]; try omega)) ?_ rfl
  intro v8 w19 x20 S
  have B := B.trans x20
  refine t_move rfl ?_ rfl
  refine t_lit (T := intT) (l := [key]) (css := ([key]).map fun a => [I a]) int_flat S (fun w => bs_int1 _ w) rfl rfl rfl rfl (by simp [maxLen]) (litR_int _) ?_ rfl rfl
  intro u10 w21 x22 S
  have B := bx Hb B x22
  have hR := S.sl
  have S := S.f1
  refine t_cat int_flat e_int S hR rfl rfl rfl (by first | omega | (simp [-List.length_flatMap]; omega)) (by (simp [maxLen, -List.length_flatMap]; try omega)) ?_ rfl
  intro v11 w23 x24 S
  have B := B.trans x24
  clear hR
  have S := S.f1
  have S := S.tail
  refine t_calls Try.call188 rfl (impl_Digest _ _ _ (S.sl) (by simp; omega)) ?_ rfl rfl
  refine t_assign rfl ?_ rfl
  refine t_done ?_
  refine x_seq ?_
  refine w_ret ?_
  refine x_ret1 rfl rfl ?_
  exact ⟨rfl, ext_trans X0 B⟩
theorem impl_HopMAC (key ts beta : Int) (x : Hop) (w : World) : Calls Try.prog 197 #[I key, I ts, I beta, .agg #[I x.ia, I x.ing, I x.eg, I x.exp, I x.mac]] w fun e w' => e = .returned (I (hopMac key ts beta x)) ∧ Below w.heap.size w w' := by
  have h := hop_mkv w x
  have X0 := Below.refl w.heap.size w
  refine enter Try.func197 rfl Try.ntmps197 rfl ?_
  refine w_seq ?_
  refine w_region ?_
  refine t_boxr (by assumption) rfl ?_ rfl rfl
  intro p7 w25 x26 hp7
  replace h := h.below x26
  have X0 := ext_trans X0 x26
  have S := Sep.nil w25
  have B := Below.refl w25.heap.size w25
  have Hb := Nat.le_refl w25.heap.size
  refine t_assign rfl ?_ rfl
  refine t_done ?_
  refine x_seq ?_
  refine w_seq ?_
  refine w_region ?_
  refine t_move rfl ?_ rfl
  refine t_move rfl ?_ rfl
  refine t_move rfl ?_ rfl
  refine t_fld ln_hop_0 (by assumption) fb_hop_0 rfl ?_ rfl
  intro p12 hp12
  refine t_ldi (by assumption) ab_int B rfl ?_ rfl
  refine t_fld ln_hop_1 (by assumption) fb_hop_1 rfl ?_ rfl
  intro p14 hp14
  refine t_ldi (by assumption) ab_int B rfl ?_ rfl
  refine t_fld ln_hop_2 (by assumption) fb_hop_2 rfl ?_ rfl
  intro p16 hp16
  refine t_ldi (by assumption) ab_int B rfl ?_ rfl
  refine t_fld ln_hop_3 (by assumption) fb_hop_3 rfl ?_ rfl
  intro p18 hp18
  refine t_ldi (by assumption) ab_int B rfl ?_ rfl
  refine t_lit (T := intT) (l := [ts, beta, x.ia, x.ing, x.eg, x.exp]) (css := ([ts, beta, x.ia, x.ing, x.eg, x.exp]).map fun a => [I a]) int_flat S (fun w => bs_int6 _ _ _ _ _ _ w) rfl rfl rfl rfl (by simp [maxLen]) (litR_int _) ?_ rfl rfl
  intro u20 w27 x28 S
  have B := bx Hb B x28
  refine t_callx Try.call203 rfl (impl_ComputeMAC _ _ _ _ (S.sl) (by simp)) ?_ rfl rfl
  intro w29 x30
  have B := bx Hb B x30
  have S := S.below x30
  refine t_assign rfl ?_ rfl
  refine t_done ?_
  refine x_seq ?_
  refine w_ret ?_
  refine x_ret1 rfl rfl ?_
  exact ⟨rfl, ext_trans X0 B⟩
theorem spec_ComputeMAC (key : Int) (l : List Int) (v : Value) (w : World) (h : SlR intT w v l) (hn : l.length ≤ 1048576) : Calls Try.prog 200 #[I key, v] w fun e w' => e = .returned (I (computeMac key l)) ∧ Below w.heap.size w w' := by
  have X0 := Below.refl w.heap.size w
  refine enter Try.func200 rfl Try.ntmps200 rfl ?_
  refine w_seq ?_
  refine w_region ?_
  have S := Sep.nil w
  have B := Below.refl w.heap.size w
  have Hb := Nat.le_refl w.heap.size
  refine t_assign rfl ?_ rfl
  refine t_done ?_
  refine x_seq ?_
  refine w_seq ?_
  refine w_region ?_
  refine t_move rfl ?_ rfl
  refine t_lit (T := intT) (l := [key]) (css := ([key]).map fun a => [I a]) int_flat S (fun w => bs_int1 _ w) rfl rfl rfl rfl (by simp [maxLen]) (litR_int _) ?_ rfl rfl
  intro u6 w31 x32 S
  have B := bx Hb B x32
  refine t_move rfl ?_ rfl
  refine t_cat int_flat e_int S (by first | assumption | exact SlR.below (by assumption) B) rfl rfl rfl (by first | omega | (simp [-List.length_flatMap]; omega)) (by (simp [maxLen, -List.length_flatMap]; try omega)) ?_ rfl
  intro v8 w33 x34 S
  have B := B.trans x34
  refine t_move rfl ?_ rfl
  refine t_lit (T := intT) (l := [key]) (css := ([key]).map fun a => [I a]) int_flat S (fun w => bs_int1 _ w) rfl rfl rfl rfl (by simp [maxLen]) (litR_int _) ?_ rfl rfl
  intro u10 w35 x36 S
  have B := bx Hb B x36
  have hR := S.sl
  have S := S.f1
  refine t_cat int_flat e_int S hR rfl rfl rfl (by first | omega | (simp [-List.length_flatMap]; omega)) (by (simp [maxLen, -List.length_flatMap]; try omega)) ?_ rfl
  intro v11 w37 x38 S
  have B := B.trans x38
  clear hR
  have S := S.f1
  have S := S.tail
  refine t_calls Try.call186 rfl (spec_Digest _ _ _ (S.sl) (by simp; omega)) ?_ rfl rfl
  refine t_assign rfl ?_ rfl
  refine t_done ?_
  refine x_seq ?_
  refine w_ret ?_
  refine x_ret1 rfl rfl ?_
  exact ⟨rfl, ext_trans X0 B⟩
theorem spec_HopMAC (key ts beta : Int) (x : Hop) (w : World) : Calls Try.prog 193 #[I key, I ts, I beta, .agg #[I x.ia, I x.ing, I x.eg, I x.exp, I x.mac]] w fun e w' => e = .returned (I (hopMac key ts beta x)) ∧ Below w.heap.size w w' := by
  have h := hop_mkv w x
  have X0 := Below.refl w.heap.size w
  refine enter Try.func193 rfl Try.ntmps193 rfl ?_
  refine w_seq ?_
  refine w_region ?_
  refine t_boxr (by assumption) rfl ?_ rfl rfl
  intro p7 w39 x40 hp7
  replace h := h.below x40
  have X0 := ext_trans X0 x40
  have S := Sep.nil w39
  have B := Below.refl w39.heap.size w39
  have Hb := Nat.le_refl w39.heap.size
  refine t_assign rfl ?_ rfl
  refine t_done ?_
  refine x_seq ?_
  refine w_seq ?_
  refine w_region ?_
  refine t_move rfl ?_ rfl
  refine t_move rfl ?_ rfl
  refine t_move rfl ?_ rfl
  refine t_fld ln_hop_0 (by assumption) fb_hop_0 rfl ?_ rfl
  intro p12 hp12
  refine t_ldi (by assumption) ab_int B rfl ?_ rfl
  refine t_fld ln_hop_1 (by assumption) fb_hop_1 rfl ?_ rfl
  intro p14 hp14
  refine t_ldi (by assumption) ab_int B rfl ?_ rfl
  refine t_fld ln_hop_2 (by assumption) fb_hop_2 rfl ?_ rfl
  intro p16 hp16
  refine t_ldi (by assumption) ab_int B rfl ?_ rfl
  refine t_fld ln_hop_3 (by assumption) fb_hop_3 rfl ?_ rfl
  intro p18 hp18
  refine t_ldi (by assumption) ab_int B rfl ?_ rfl
  refine t_lit (T := intT) (l := [ts, beta, x.ia, x.ing, x.eg, x.exp]) (css := ([ts, beta, x.ia, x.ing, x.eg, x.exp]).map fun a => [I a]) int_flat S (fun w => bs_int6 _ _ _ _ _ _ w) rfl rfl rfl rfl (by simp [maxLen]) (litR_int _) ?_ rfl rfl
  intro u20 w41 x42 S
  have B := bx Hb B x42
  refine t_callx Try.call200 rfl (spec_ComputeMAC _ _ _ _ (S.sl) (by simp)) ?_ rfl rfl
  intro w43 x44
  have B := bx Hb B x44
  have S := S.below x44
  refine t_assign rfl ?_ rfl
  refine t_done ?_
  refine x_seq ?_
  refine w_ret ?_
  refine x_ret1 rfl rfl ?_
  exact ⟨rfl, ext_trans X0 B⟩

end Go.Proofs.Ytfgobdejlfojiaa
