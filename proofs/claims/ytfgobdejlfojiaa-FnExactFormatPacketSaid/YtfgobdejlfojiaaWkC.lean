/- VerifyHop, VerifyPart, of the program and of the reference. -/
import Derived.Test.YtfgobdejlfojiaaWkB
import Derived.Test.YtfgobdejlfojiaaEnc
namespace Go.Proofs.Ytfgobdejlfojiaa
open Go.RowKit
set_option linter.unusedVariables false
set_option maxRecDepth 20000


def isAS (t : Topo) (r : Int) : Bool := inR r 0 ((t.ases.length : Int) - 1)
def asKey (t : Topo) (r : Int) : Int := match t.ases[r.toNat]? with
  | some a => a.key
  | none => 0
def verifyHop (t : Topo) (ts beta : Int) (h : Hop) : Bool := validHop h && (isAS t h.ia && decide (h.mac = hopMac (asKey t h.ia) ts beta h))

theorem impl_isAS (t : Topo) (v : Value) (r : Int) (w : World) (h : VA topoT w v t) (hz : sz_topo t ≤ 1048576) : Calls Try.prog 176 #[v, I r] w fun e w' => e = .returned (.bool (isAS t r)) ∧ Below w.heap.size w w' := by
  have hz' : t.ases.length ≤ 1048576 := by unfold sz_topo at hz; omega
  have X0 := Below.refl w.heap.size w
  refine enter Try.func176 rfl Try.ntmps176 rfl ?_
  refine w_seq ?_
  refine w_region ?_
  refine t_boxr (by assumption) rfl ?_ rfl rfl
  intro p2 w1 x2 hp2
  replace h := h.below x2
  have X0 := ext_trans X0 x2
  have S := Sep.nil w1
  have B := Below.refl w1.heap.size w1
  have Hb := Nat.le_refl w1.heap.size
  refine t_assign rfl ?_ rfl
  refine t_done ?_
  refine x_seq ?_
  refine w_seq ?_
  refine w_region ?_
  refine t_move rfl ?_ rfl
  refine t_fld ln_topo_0 (by assumption) fb_topo_0 rfl ?_ rfl
  intro p6 hp6
  refine t_lds (by assumption) ab_s_asn B rfl ?_ rfl
  intro v7 hv7
  refine t_len e_asn (by assumption) rfl rfl ?_ rfl
  refine t_sub rfl rfl (by omega) ?_ rfl
  refine t_calls Try.call70 rfl (impl_InRange _ _ _ _) ?_ rfl rfl
  refine t_assign rfl ?_ rfl
  refine t_done ?_
  refine x_seq ?_
  refine w_ret ?_
  refine x_ret1 rfl rfl ?_
  exact ⟨rfl, ext_trans X0 B⟩
theorem spec_l5Realm (t : Topo) (v : Value) (r : Int) (w : World) (h : VA topoT w v t) (hz : sz_topo t ≤ 1048576) : Calls Try.prog 131 #[v, I r] w fun e w' => e = .returned (.bool (isAS t r)) ∧ Below w.heap.size w w' := by
  have hz' : t.ases.length ≤ 1048576 := by unfold sz_topo at hz; omega
  have X0 := Below.refl w.heap.size w
  refine enter Try.func131 rfl Try.ntmps131 rfl ?_
  refine w_seq ?_
  refine w_region ?_
  refine t_boxr (by assumption) rfl ?_ rfl rfl
  intro p2 w3 x4 hp2
  replace h := h.below x4
  have X0 := ext_trans X0 x4
  have S := Sep.nil w3
  have B := Below.refl w3.heap.size w3
  have Hb := Nat.le_refl w3.heap.size
  refine t_assign rfl ?_ rfl
  refine t_done ?_
  refine x_seq ?_
  refine w_seq ?_
  refine w_region ?_
  refine t_move rfl ?_ rfl
  refine t_fld ln_topo_0 (by assumption) fb_topo_0 rfl ?_ rfl
  intro p6 hp6
  refine t_lds (by assumption) ab_s_asn B rfl ?_ rfl
  intro v7 hv7
  refine t_len e_asn (by assumption) rfl rfl ?_ rfl
  refine t_sub rfl rfl (by omega) ?_ rfl
  refine t_calls Try.call64 rfl (spec_l1In _ _ _ _) ?_ rfl rfl
  refine t_assign rfl ?_ rfl
  refine t_done ?_
  refine x_seq ?_
  refine w_ret ?_
  refine x_ret1 rfl rfl ?_
  exact ⟨rfl, ext_trans X0 B⟩

theorem impl_VerifyHop (t : Topo) (v : Value) (ts beta : Int) (x : Hop) (w : World) (h : VA topoT w v t) (hz : sz_topo t ≤ 1048576) : Calls Try.prog 183 #[v, I ts, I beta, .agg #[I x.ia, I x.ing, I x.eg, I x.exp, I x.mac]] w fun e w' => e = .returned (.bool (verifyHop t ts beta x)) ∧ Below w.heap.size w w' := by
  have hx := hop_mkv w x
  have X0 := Below.refl w.heap.size w
  refine enter Try.func183 rfl Try.ntmps183 rfl ?_
  refine w_seq ?_
  refine w_region ?_
  refine t_boxr (by assumption) rfl ?_ rfl rfl
  intro p4 w5 x6 hp4
  replace h := h.below x6
  replace hx := hx.below x6
  have X0 := ext_trans X0 x6
  refine t_boxr (by assumption) rfl ?_ rfl rfl
  intro p7 w7 x8 hp7
  replace h := h.below x8
  replace hx := hx.below x8
  replace hp4 := hp4.below x8
  have X0 := ext_trans X0 x8
  have S := Sep.nil w7
  have B := Below.refl w7.heap.size w7
  have Hb := Nat.le_refl w7.heap.size
  refine t_assign rfl ?_ rfl
  refine t_done ?_
  refine x_seq ?_
  refine w_seq ?_
  refine w_draw (.st .take 0 (.st .run 1 (.st .take 2 (.st .take 3 (.st .take 4 (.st .take 5 (.st .run 6 (.st .take 7 (.st .take 8 (.st .take 9 (.st .take 10 (.st .take 11 (.st .take 12 (.st .take 13 (.st .take 14 (.st .take 15 (.st .take 16 (.st .take 17 (.st .take 18 (.st .take 19 (.st .take 20 (.st .run 21 (.st .take 22 (.st .take 23 (.st .take 24 .done))))))))))))))))))))))))) mixed (by kernel_rfl) ?_
  intro w9 x10
  have B := bx Hb B x10
  have S := S.below x10
  refine t_lda (by assumption) ab_hop sb_hop B rfl ?_ rfl
  intro v9 hv9
  obtain rfl := hop_va hv9
  refine t_callx Try.call175 rfl (impl_ValidHop _ _) ?_ rfl rfl
  intro w11 x12
  have B := bx Hb B x12
  have S := S.below x12
  refine t_move rfl ?_ rfl
  refine t_part (t := 11) rfl ?_ ?_
  · intro h1
    refine t_on rfl rfl ?_
    refine t_lda (by assumption) ab_topo sb_topo B rfl ?_ rfl
    intro v12 hv12
    obtain ⟨v12_0, v12_1, rfl, hv12_0, hv12_1⟩ := topo_va hv12
    refine t_on rfl rfl ?_
    refine t_fld ln_hop_0 (by assumption) fb_hop_0 rfl ?_ rfl
    intro p13 hp13
    refine t_on rfl rfl ?_
    refine t_ldi (by assumption) ab_int B rfl ?_ rfl
    refine t_on rfl rfl ?_
    refine t_callx Try.call176 rfl (impl_isAS _ _ _ _ (by first | assumption | exact VA.below (by assumption) B) (by omega)) ?_ rfl rfl
    intro w13 x14
    have B := bx Hb B x14
    have S := S.below x14
    refine t_pickt rfl rfl ?_ rfl
    refine t_move rfl ?_ rfl
    refine t_part (t := 17) rfl ?_ ?_
    · intro h2
      have r2 := inR_iff.1 h2
      refine t_on rfl rfl ?_
      refine t_fld ln_hop_4 (by assumption) fb_hop_4 rfl ?_ rfl
      intro p18 hp18
      refine t_on rfl rfl ?_
      refine t_ldi (by assumption) ab_int B rfl ?_ rfl
      refine t_on rfl rfl ?_
      refine t_fld ln_topo_0 (by assumption) fb_topo_0 rfl ?_ rfl
      intro p20 hp20
      refine t_on rfl rfl ?_
      refine t_lds (by assumption) ab_s_asn B rfl ?_ rfl
      intro v21 hv21
      refine t_on rfl rfl ?_
      refine t_fld ln_hop_0 (by assumption) fb_hop_0 rfl ?_ rfl
      intro p22 hp22
      refine t_on rfl rfl ?_
      refine t_ldi (by assumption) ab_int B rfl ?_ rfl
      refine t_on rfl rfl ?_
      obtain ⟨e24, he24⟩ : ∃ e, (t.ases)[x.ia.toNat]? = some e := getx (by omega)
      refine t_idx e_asn (k := x.ia.toNat) (by assumption) he24 B rfl rfl (by first | rfl | omega) ?_ rfl
      intro p24 hp24
      refine t_on rfl rfl ?_
      refine t_fld ln_asn_2 (by assumption) fb_asn_2 rfl ?_ rfl
      intro p25 hp25
      refine t_on rfl rfl ?_
      refine t_ldi (by assumption) ab_int B rfl ?_ rfl
      refine t_on rfl rfl ?_
      refine t_move rfl ?_ rfl
      refine t_on rfl rfl ?_
      refine t_move rfl ?_ rfl
      refine t_on rfl rfl ?_
      refine t_lda (by assumption) ab_hop sb_hop B rfl ?_ rfl
      intro v29 hv29
      obtain rfl := hop_va hv29
      refine t_on rfl rfl ?_
      refine t_callx Try.call197 rfl (impl_HopMAC _ _ _ _ _) ?_ rfl rfl
      intro w15 x16
      have B := bx Hb B x16
      have S := S.below x16
      refine t_on rfl rfl ?_
      refine t_eql rfl rfl ?_ rfl
      refine t_pickt rfl rfl ?_ rfl
      refine t_assign rfl ?_ rfl
      refine t_done' ?_
      refine x_seq ?_
      refine w_ret ?_
      refine x_ret1 rfl rfl ?_
      exact ⟨ret_bool (by simp [verifyHop, h1, h2, asKey, he24]), ext_trans X0 B⟩
    · intro h2
      refine t_off rfl rfl rfl ?_ rfl
      refine t_off rfl rfl rfl ?_ rfl
      refine t_off rfl rfl rfl ?_ rfl
      refine t_off rfl rfl rfl ?_ rfl
      refine t_off rfl rfl rfl ?_ rfl
      refine t_off rfl rfl rfl ?_ rfl
      refine t_off rfl rfl rfl ?_ rfl
      refine t_off rfl rfl rfl ?_ rfl
      refine t_off rfl rfl rfl ?_ rfl
      refine t_off rfl rfl rfl ?_ rfl
      refine t_off rfl rfl rfl ?_ rfl
      refine t_off rfl rfl rfl ?_ rfl
      refine t_off rfl rfl rfl ?_ rfl
      refine t_off rfl rfl rfl ?_ rfl
      refine t_pickf rfl rfl ?_ rfl
      refine t_assign rfl ?_ rfl
      refine t_done' ?_
      refine x_seq ?_
      refine w_ret ?_
      refine x_ret1 rfl rfl ?_
      exact ⟨ret_bool (by simp [verifyHop, h1, h2]), ext_trans X0 B⟩
  · intro h1
    refine t_off rfl rfl rfl ?_ rfl
    refine t_off rfl rfl rfl ?_ rfl
    refine t_off rfl rfl rfl ?_ rfl
    refine t_off rfl rfl rfl ?_ rfl
    refine t_pickf rfl rfl ?_ rfl
    refine t_move rfl ?_ rfl
    refine t_off rfl rfl rfl ?_ rfl
    refine t_off rfl rfl rfl ?_ rfl
    refine t_off rfl rfl rfl ?_ rfl
    refine t_off rfl rfl rfl ?_ rfl
    refine t_off rfl rfl rfl ?_ rfl
    refine t_off rfl rfl rfl ?_ rfl
    refine t_off rfl rfl rfl ?_ rfl
    refine t_off rfl rfl rfl ?_ rfl
    refine t_off rfl rfl rfl ?_ rfl
    refine t_off rfl rfl rfl ?_ rfl
    refine t_off rfl rfl rfl ?_ rfl
    refine t_off rfl rfl rfl ?_ rfl
    refine t_off rfl rfl rfl ?_ rfl
    refine t_off rfl rfl rfl ?_ rfl
    refine t_pickf rfl rfl ?_ rfl
    refine t_assign rfl ?_ rfl
    refine t_done' ?_
    refine x_seq ?_
    refine w_ret ?_
    refine x_ret1 rfl rfl ?_
    exact ⟨ret_bool (by simp [verifyHop, h1]), ext_trans X0 B⟩
theorem spec_VerifyHop (t : Topo) (v : Value) (ts beta : Int) (x : Hop) (w : World) (h : VA topoT w v t) (hz : sz_topo t ≤ 1048576) : Calls Try.prog 180 #[v, I ts, I beta, .agg #[I x.ia, I x.ing, I x.eg, I x.exp, I x.mac]] w fun e w' => e = .returned (.bool (verifyHop t ts beta x)) ∧ Below w.heap.size w w' := by
  have hx := hop_mkv w x
  have X0 := Below.refl w.heap.size w
  refine enter Try.func180 rfl Try.ntmps180 rfl ?_
  refine w_seq ?_
  refine w_region ?_
  refine t_boxr (by assumption) rfl ?_ rfl rfl
  intro p4 w17 x18 hp4
  replace h := h.below x18
  replace hx := hx.below x18
  have X0 := ext_trans X0 x18
  refine t_boxr (by assumption) rfl ?_ rfl rfl
  intro p7 w19 x20 hp7
  replace h := h.below x20
  replace hx := hx.below x20
  replace hp4 := hp4.below x20
  have X0 := ext_trans X0 x20
  have S := Sep.nil w19
  have B := Below.refl w19.heap.size w19
  have Hb := Nat.le_refl w19.heap.size
  refine t_assign rfl ?_ rfl
  refine t_done ?_
  refine x_seq ?_
  refine w_seq ?_
  refine w_draw (.st .take 0 (.st .run 1 (.st .take 2 (.st .take 3 (.st .take 4 (.st .take 5 (.st .run 6 (.st .take 7 (.st .take 8 (.st .take 9 (.st .take 10 (.st .take 11 (.st .take 12 (.st .take 13 (.st .take 14 (.st .take 15 (.st .take 16 (.st .take 17 (.st .take 18 (.st .take 19 (.st .take 20 (.st .run 21 (.st .take 22 (.st .take 23 (.st .take 24 .done))))))))))))))))))))))))) mixed (by kernel_rfl) ?_
  intro w21 x22
  have B := bx Hb B x22
  have S := S.below x22
  refine t_lda (by assumption) ab_hop sb_hop B rfl ?_ rfl
  intro v9 hv9
  obtain rfl := hop_va hv9
  refine t_callx Try.call130 rfl (spec_ValidHop _ _) ?_ rfl rfl
  intro w23 x24
  have B := bx Hb B x24
  have S := S.below x24
  refine t_move rfl ?_ rfl
  refine t_part (t := 11) rfl ?_ ?_
  · intro h1
    refine t_on rfl rfl ?_
    refine t_lda (by assumption) ab_topo sb_topo B rfl ?_ rfl
    intro v12 hv12
    obtain ⟨v12_0, v12_1, rfl, hv12_0, hv12_1⟩ := topo_va hv12
    refine t_on rfl rfl ?_
    refine t_fld ln_hop_0 (by assumption) fb_hop_0 rfl ?_ rfl
    intro p13 hp13
    refine t_on rfl rfl ?_
    refine t_ldi (by assumption) ab_int B rfl ?_ rfl
    refine t_on rfl rfl ?_
    refine t_callx Try.call131 rfl (spec_l5Realm _ _ _ _ (by first | assumption | exact VA.below (by assumption) B) (by omega)) ?_ rfl rfl
    intro w25 x26
    have B := bx Hb B x26
    have S := S.below x26
    refine t_pickt rfl rfl ?_ rfl
    refine t_move rfl ?_ rfl
    refine t_part (t := 17) rfl ?_ ?_
    · intro h2
      have r2 := inR_iff.1 h2
      refine t_on rfl rfl ?_
      refine t_fld ln_hop_4 (by assumption) fb_hop_4 rfl ?_ rfl
      intro p18 hp18
      refine t_on rfl rfl ?_
      refine t_ldi (by assumption) ab_int B rfl ?_ rfl
      refine t_on rfl rfl ?_
      refine t_fld ln_topo_0 (by assumption) fb_topo_0 rfl ?_ rfl
      intro p20 hp20
      refine t_on rfl rfl ?_
      refine t_lds (by assumption) ab_s_asn B rfl ?_ rfl
      intro v21 hv21
      refine t_on rfl rfl ?_
      refine t_fld ln_hop_0 (by assumption) fb_hop_0 rfl ?_ rfl
      intro p22 hp22
      refine t_on rfl rfl ?_
      refine t_ldi (by assumption) ab_int B rfl ?_ rfl
      refine t_on rfl rfl ?_
      obtain ⟨e24, he24⟩ : ∃ e, (t.ases)[x.ia.toNat]? = some e := getx (by omega)
      refine t_idx e_asn (k := x.ia.toNat) (by assumption) he24 B rfl rfl (by first | rfl | omega) ?_ rfl
      intro p24 hp24
      refine t_on rfl rfl ?_
      refine t_fld ln_asn_2 (by assumption) fb_asn_2 rfl ?_ rfl
      intro p25 hp25
      refine t_on rfl rfl ?_
      refine t_ldi (by assumption) ab_int B rfl ?_ rfl
      refine t_on rfl rfl ?_
      refine t_move rfl ?_ rfl
      refine t_on rfl rfl ?_
      refine t_move rfl ?_ rfl
      refine t_on rfl rfl ?_
      refine t_lda (by assumption) ab_hop sb_hop B rfl ?_ rfl
      intro v29 hv29
      obtain rfl := hop_va hv29
      refine t_on rfl rfl ?_
      refine t_callx Try.call193 rfl (spec_HopMAC _ _ _ _ _) ?_ rfl rfl
      intro w27 x28
      have B := bx Hb B x28
      have S := S.below x28
      refine t_on rfl rfl ?_
      refine t_eql rfl rfl ?_ rfl
      refine t_pickt rfl rfl ?_ rfl
      refine t_assign rfl ?_ rfl
      refine t_done' ?_
      refine x_seq ?_
      refine w_ret ?_
      refine x_ret1 rfl rfl ?_
      exact ⟨ret_bool (by simp [verifyHop, h1, h2, asKey, he24]), ext_trans X0 B⟩
    · intro h2
      refine t_off rfl rfl rfl ?_ rfl
      refine t_off rfl rfl rfl ?_ rfl
      refine t_off rfl rfl rfl ?_ rfl
      refine t_off rfl rfl rfl ?_ rfl
      refine t_off rfl rfl rfl ?_ rfl
      refine t_off rfl rfl rfl ?_ rfl
      refine t_off rfl rfl rfl ?_ rfl
      refine t_off rfl rfl rfl ?_ rfl
      refine t_off rfl rfl rfl ?_ rfl
      refine t_off rfl rfl rfl ?_ rfl
      refine t_off rfl rfl rfl ?_ rfl
      refine t_off rfl rfl rfl ?_ rfl
      refine t_off rfl rfl rfl ?_ rfl
      refine t_off rfl rfl rfl ?_ rfl
      refine t_pickf rfl rfl ?_ rfl
      refine t_assign rfl ?_ rfl
      refine t_done' ?_
      refine x_seq ?_
      refine w_ret ?_
      refine x_ret1 rfl rfl ?_
      exact ⟨ret_bool (by simp [verifyHop, h1, h2]), ext_trans X0 B⟩
  · intro h1
    refine t_off rfl rfl rfl ?_ rfl
    refine t_off rfl rfl rfl ?_ rfl
    refine t_off rfl rfl rfl ?_ rfl
    refine t_off rfl rfl rfl ?_ rfl
    refine t_pickf rfl rfl ?_ rfl
    refine t_move rfl ?_ rfl
    refine t_off rfl rfl rfl ?_ rfl
    refine t_off rfl rfl rfl ?_ rfl
    refine t_off rfl rfl rfl ?_ rfl
    refine t_off rfl rfl rfl ?_ rfl
    refine t_off rfl rfl rfl ?_ rfl
    refine t_off rfl rfl rfl ?_ rfl
    refine t_off rfl rfl rfl ?_ rfl
    refine t_off rfl rfl rfl ?_ rfl
    refine t_off rfl rfl rfl ?_ rfl
    refine t_off rfl rfl rfl ?_ rfl
    refine t_off rfl rfl rfl ?_ rfl
    refine t_off rfl rfl rfl ?_ rfl
    refine t_off rfl rfl rfl ?_ rfl
    refine t_off rfl rfl rfl ?_ rfl
    refine t_pickf rfl rfl ?_ rfl
    refine t_assign rfl ?_ rfl
    refine t_done' ?_
    refine x_seq ?_
    refine w_ret ?_
    refine x_ret1 rfl rfl ?_
    exact ⟨ret_bool (by simp [verifyHop, h1]), ext_trans X0 B⟩

def verifyPart (t : Topo) (p : Part) : Bool := (p.hops.zipIdx).all fun x => verifyHop t p.ts (hopBeta p x.2) x.1
theorem verify_all {t : Topo} {p : Part} (h : ∀ (k : Nat) x, p.hops[k]? = some x → verifyHop t p.ts (hopBeta p k) x = true) : verifyPart t p = true := by
  unfold verifyPart
  rw [List.all_eq_true]
  rintro ⟨x, k⟩ hm
  exact h k x (by simpa using List.mem_zipIdx_iff_getElem?.1 hm)
theorem verify_bad {t : Topo} {p : Part} {k : Nat} {x : Hop} (hx : p.hops[k]? = some x) (hf : verifyHop t p.ts (hopBeta p k) x = false) : verifyPart t p = false := by
  unfold verifyPart
  rw [List.all_eq_false]
  exact ⟨(x, k), by rw [List.mem_zipIdx_iff_getElem?]; exact hx, by simp [hf]⟩

theorem verify_step {α : Type} {l : List α} {f : Nat → α → Bool} {k : Nat} {x : α} (ha : ∀ (j : Nat) y, j < k → l[j]? = some y → f j y = true) (hx : l[k]? = some x) (hf : f k x = true) {j : Nat} {y : α} (hj : j < k + 1) (hy : l[j]? = some y) : f j y = true := by
  rcases Nat.lt_or_ge j k with h | h
  · exact ha j y h hy
  · have : j = k := by omega
    subst this
    rw [hx] at hy
    cases hy
    exact hf

theorem impl_VerifyPart (t : Topo) (v : Value) (p : Part) (u : Value) (w : World) (h : VA topoT w v t) (hp : VA partT w u p) (hz : sz_topo t ≤ 1048576) (hz' : p.hops.length ≤ 1048576) : Calls Try.prog 148 #[v, u] w fun e w' => e = .returned (.bool (verifyPart t p)) ∧ Below w.heap.size w w' := by
  have X0 := Below.refl w.heap.size w
  refine enter Try.func148 rfl Try.ntmps148 rfl ?_
  refine w_seq ?_
  refine w_region ?_
  refine t_boxr (by assumption) rfl ?_ rfl rfl
  intro p2 w29 x30 hp2
  replace h := h.below x30
  replace hp := hp.below x30
  have X0 := ext_trans X0 x30
  refine t_boxr (by assumption) rfl ?_ rfl rfl
  intro p3 w31 x32 hp3
  replace h := h.below x32
  replace hp := hp.below x32
  replace hp2 := hp2.below x32
  have X0 := ext_trans X0 x32
  have S := Sep.nil w31
  have B := Below.refl w31.heap.size w31
  have Hb := Nat.le_refl w31.heap.size
  refine t_assign rfl ?_ rfl
  refine t_done ?_
  refine x_seq ?_
  refine w_seq ?_
  refine w_seq ?_
  refine w_region ?_
  refine t_fld ln_part_3 (by assumption) fb_part_3 rfl ?_ rfl
  intro p8 hp8
  refine t_lds (by assumption) ab_s_hop B rfl ?_ rfl
  intro v9 hv9
  refine t_len e_hop (by assumption) rfl rfl ?_ rfl
  refine t_move rfl ?_ rfl
  refine t_done ?_
  refine x_seq ?_
  refine w_block ?_
  refine w_loop (X := Nat) (fun k wq => k ≤ p.hops.length ∧ (∀ (j : Nat) y, j < k → p.hops[j]? = some y → verifyHop t p.ts (hopBeta p j) y = true) ∧ Below w31.heap.size w31 wq ∧ Sep w31.heap.size wq []) (fun k => [(11, I ((k : Int))), (2, p2), (3, p3), (9, v9), (10, I ((p.hops.length : Int)))]) (fun k => p.hops.length - k) (0) ?_ ⟨rfl, rfl, rfl, rfl, rfl, trivial⟩ ?_
  · exact ⟨by omega, by omega, B, S⟩
  · rintro k w33 hI
    try dsimp only at hI ⊢
    obtain ⟨hk, ha, B, S⟩ := hI
    refine w_seq ?_
    refine w_region ?_
    refine t_lss rfl rfl ?_ rfl
    refine t_done ?_
    refine x_seq ?_
    refine w_seq ?_
    refine w_if rfl ?_ ?_
    · intro hlt
      refine w_skip ?_
      refine x_seq ?_
      refine w_seq ?_
      refine w_block ?_
      refine w_seq ?_
      refine w_region ?_
      refine t_move rfl ?_ rfl
      obtain ⟨e14, he14⟩ : ∃ e, (p.hops)[k]? = some e := getx (by omega)
      refine t_idx e_hop (k := k) (by assumption) he14 B rfl rfl (by first | rfl | omega) ?_ rfl
      intro p14 hp14
      refine t_lda (by assumption) ab_hop sb_hop B rfl ?_ rfl
      intro v15 hv15
      obtain rfl := hop_va hv15
      refine t_alloc S z_hop rfl ?_ rfl rfl
      intro g6 w34 x35 S
      have B := bx Hb B x35
      refine t_assign rfl ?_ rfl
      refine t_stn S sb_hop rfl rfl rfl rfl (by simp [Value.oneCell']) ?_
      intro w36 b37 S
      have B := B.trans b37
      refine t_done ?_
      refine x_seq ?_
      refine w_seq ?_
      refine w_region ?_
      refine t_lda (by assumption) ab_part sb_part B rfl ?_ rfl
      intro v16 hv16
      obtain ⟨v16_3, rfl, hv16_3⟩ := part_va hv16
      refine t_move rfl ?_ rfl
      refine t_callx Try.call182 rfl (impl_BetaAfter _ _ _ _ (by first | assumption | exact VA.below (by assumption) B) (by omega)) ?_ rfl rfl
      intro w38 x39
      have B := bx Hb B x39
      have S := S.below x39
      refine t_assign rfl ?_ rfl
      refine t_done ?_
      refine x_seq ?_
      refine w_seq ?_
      refine w_seq ?_
      refine w_region ?_
      refine t_fld ln_part_0 (by assumption) fb_part_0 rfl ?_ rfl
      intro p19 hp19
      refine t_ldi (by assumption) ab_int B rfl ?_ rfl
      refine t_calls Try.call177 rfl (impl_IsReversed _ _) ?_ rfl rfl
      refine t_done ?_
      refine x_seq ?_
      refine w_ifb rfl ?_ ?_
      · intro hr
        have hB : hopBeta p k = betaAfter p (k + 1) := by simp [hopBeta, hr]
        refine w_region ?_
        refine t_lda (by assumption) ab_part sb_part B rfl ?_ rfl
        intro v22 hv22
        obtain ⟨v22_3, rfl, hv22_3⟩ := part_va hv22
        refine t_move rfl ?_ rfl
        refine t_add rfl rfl (by omega) ?_ rfl
        refine t_callx Try.call182 rfl (impl_BetaAfter _ _ _ _ (by first | assumption | exact VA.below (by assumption) B) (by omega)) ?_ rfl rfl
        intro w40 x41
        have B := bx Hb B x41
        have S := S.below x41
        refine t_assign rfl ?_ rfl
        refine t_done ?_
        refine x_seq ?_
        refine w_seq ?_
        refine w_region ?_
        refine t_lda (by assumption) ab_topo sb_topo B rfl ?_ rfl
        intro v26 hv26
        obtain ⟨v26_0, v26_1, rfl, hv26_0, hv26_1⟩ := topo_va hv26
        refine t_fld ln_part_1 (by assumption) fb_part_1 rfl ?_ rfl
        intro p27 hp27
        refine t_ldi (by assumption) ab_int B rfl ?_ rfl
        refine t_move rfl ?_ rfl
        refine t_bxn S.box ab_hop sb_hop rfl rfl ?_ rfl
        refine t_callx Try.call183 rfl (impl_VerifyHop _ _ _ _ _ _ (by first | assumption | exact VA.below (by assumption) B) (by omega)) ?_ rfl rfl
        intro w42 x43
        have B := bx Hb B x43
        have S := S.below x43
        refine t_notb rfl ?_ rfl
        refine t_done ?_
        refine x_seq ?_
        refine w_ifb rfl ?_ ?_
        · intro hv
          refine w_seq ?_
          refine w_region ?_
          refine t_assign rfl ?_ rfl
          refine t_done ?_
          refine x_seq ?_
          refine w_ret ?_
          refine x_block_ret ?_
          refine x_then_ret ?_
          refine x_then_ret ?_
          refine x_block_ret ?_
          refine x_then_ret ?_
          refine x_ret1 rfl rfl ?_
          exact ⟨ret_bool (verify_bad he14 (by rw [hB]; simpa using hv)).symm, ext_trans X0 B⟩
        · intro hv
          refine w_skip ?_
          refine x_block_normal ?_
          refine x_seq ?_
          refine w_region ?_
          refine t_add rfl rfl (by omega) ?_ rfl
          refine t_move rfl ?_ rfl
          refine t_done ?_
          have S := S.tail
          refine x_round (I := (fun k wq => k ≤ p.hops.length ∧ (∀ (j : Nat) y, j < k → p.hops[j]? = some y → verifyHop t p.ts (hopBeta p j) y = true) ∧ Below w31.heap.size w31 wq ∧ Sep w31.heap.size wq [])) (F := (fun k => [(11, I ((k : Int))), (2, p2), (3, p3), (9, v9), (10, I ((p.hops.length : Int)))])) (μ := (fun k => p.hops.length - k)) (k + 1) ?_ (by exact ⟨rfl, rfl, rfl, rfl, rfl, trivial⟩) (by (try dsimp only); omega)
          try dsimp only
          exact ⟨by omega, fun j y hj hy => verify_step ha he14 (by rw [hB]; simpa using hv) hj hy, B, S⟩
      · intro hr
        have hB : hopBeta p k = betaAfter p k := by simp [hopBeta, hr]
        refine w_skip ?_
        refine x_seq ?_
        refine w_seq ?_
        refine w_region ?_
        refine t_lda (by assumption) ab_topo sb_topo B rfl ?_ rfl
        intro v26 hv26
        obtain ⟨v26_0, v26_1, rfl, hv26_0, hv26_1⟩ := topo_va hv26
        refine t_fld ln_part_1 (by assumption) fb_part_1 rfl ?_ rfl
        intro p27 hp27
        refine t_ldi (by assumption) ab_int B rfl ?_ rfl
        refine t_move rfl ?_ rfl
        refine t_bxn S.box ab_hop sb_hop rfl rfl ?_ rfl
        refine t_callx Try.call183 rfl (impl_VerifyHop _ _ _ _ _ _ (by first | assumption | exact VA.below (by assumption) B) (by omega)) ?_ rfl rfl
        intro w44 x45
        have B := bx Hb B x45
        have S := S.below x45
        refine t_notb rfl ?_ rfl
        refine t_done ?_
        refine x_seq ?_
        refine w_ifb rfl ?_ ?_
        · intro hv
          refine w_seq ?_
          refine w_region ?_
          refine t_assign rfl ?_ rfl
          refine t_done ?_
          refine x_seq ?_
          refine w_ret ?_
          refine x_block_ret ?_
          refine x_then_ret ?_
          refine x_then_ret ?_
          refine x_block_ret ?_
          refine x_then_ret ?_
          refine x_ret1 rfl rfl ?_
          exact ⟨ret_bool (verify_bad he14 (by rw [hB]; simpa using hv)).symm, ext_trans X0 B⟩
        · intro hv
          refine w_skip ?_
          refine x_block_normal ?_
          refine x_seq ?_
          refine w_region ?_
          refine t_add rfl rfl (by omega) ?_ rfl
          refine t_move rfl ?_ rfl
          refine t_done ?_
          have S := S.tail
          refine x_round (I := (fun k wq => k ≤ p.hops.length ∧ (∀ (j : Nat) y, j < k → p.hops[j]? = some y → verifyHop t p.ts (hopBeta p j) y = true) ∧ Below w31.heap.size w31 wq ∧ Sep w31.heap.size wq [])) (F := (fun k => [(11, I ((k : Int))), (2, p2), (3, p3), (9, v9), (10, I ((p.hops.length : Int)))])) (μ := (fun k => p.hops.length - k)) (k + 1) ?_ (by exact ⟨rfl, rfl, rfl, rfl, rfl, trivial⟩) (by (try dsimp only); omega)
          try dsimp only
          exact ⟨by omega, fun j y hj hy => verify_step ha he14 (by rw [hB]; simpa using hv) hj hy, B, S⟩
    · intro hge
      refine w_exit ?_
      refine x_then_exit ?_
      refine x_then_exit ?_
      refine x_block_exit ?_
      refine x_seq ?_
      refine w_seq ?_
      refine w_region ?_
      refine t_assign rfl ?_ rfl
      refine t_done ?_
      refine x_seq ?_
      refine w_ret ?_
      refine x_ret1 rfl rfl ?_
      exact ⟨ret_bool (verify_all fun j y hy => ha j y (by have := (List.getElem?_eq_some_iff.1 hy).1; omega) hy).symm, ext_trans X0 B⟩
theorem spec_VerifyPart (t : Topo) (v : Value) (p : Part) (u : Value) (w : World) (h : VA topoT w v t) (hp : VA partT w u p) (hz : sz_topo t ≤ 1048576) (hz' : p.hops.length ≤ 1048576) : Calls Try.prog 147 #[v, u] w fun e w' => e = .returned (.bool (verifyPart t p)) ∧ Below w.heap.size w w' := by
  have X0 := Below.refl w.heap.size w
  refine enter Try.func147 rfl Try.ntmps147 rfl ?_
  refine w_seq ?_
  refine w_region ?_
  refine t_boxr (by assumption) rfl ?_ rfl rfl
  intro p2 w46 x47 hp2
  replace h := h.below x47
  replace hp := hp.below x47
  have X0 := ext_trans X0 x47
  refine t_boxr (by assumption) rfl ?_ rfl rfl
  intro p3 w48 x49 hp3
  replace h := h.below x49
  replace hp := hp.below x49
  replace hp2 := hp2.below x49
  have X0 := ext_trans X0 x49
  have S := Sep.nil w48
  have B := Below.refl w48.heap.size w48
  have Hb := Nat.le_refl w48.heap.size
  refine t_assign rfl ?_ rfl
  refine t_done ?_
  refine x_seq ?_
  refine w_seq ?_
  refine w_seq ?_
  refine w_region ?_
  refine t_assign rfl ?_ rfl
  refine t_done ?_
  refine x_seq ?_
  refine w_block ?_
  refine w_loop (X := Nat) (fun k wq => k ≤ p.hops.length ∧ (∀ (j : Nat) y, j < k → p.hops[j]? = some y → verifyHop t p.ts (hopBeta p j) y = true) ∧ Below w48.heap.size w48 wq ∧ Sep w48.heap.size wq []) (fun k => [(5, I ((k : Int))), (2, p2), (3, p3)]) (fun k => p.hops.length - k) (0) ?_ ⟨rfl, rfl, rfl, trivial⟩ ?_
  · exact ⟨by omega, by omega, B, S⟩
  · rintro k w50 hI
    try dsimp only at hI ⊢
    obtain ⟨hk, ha, B, S⟩ := hI
    refine w_seq ?_
    refine w_seq ?_
    refine w_region ?_
    refine t_move rfl ?_ rfl
    refine t_fld ln_part_3 (by assumption) fb_part_3 rfl ?_ rfl
    intro p7 hp7
    refine t_lds (by assumption) ab_s_hop B rfl ?_ rfl
    intro v8 hv8
    refine t_len e_hop (by assumption) rfl rfl ?_ rfl
    refine t_lss rfl rfl ?_ rfl
    refine t_done ?_
    refine x_seq ?_
    refine w_if rfl ?_ ?_
    · intro hlt
      refine w_skip ?_
      refine x_seq ?_
      refine w_seq ?_
      refine w_block ?_
      refine w_seq ?_
      refine w_draw (.st .take 0 (.st .take 1 (.st .take 2 (.st .take 3 (.st .take 4 (.st .take 6 (.st .take 7 (.st .take 8 (.st .take 9 (.st .take 10 (.st .run 5 (.st .run 11 (.st .take 12 .done))))))))))))) mixed (by kernel_rfl) ?_
      intro w51 x52
      have B := bx Hb B x52
      have S := S.below x52
      refine t_lda (by assumption) ab_topo sb_topo B rfl ?_ rfl
      intro v13 hv13
      obtain ⟨v13_0, v13_1, rfl, hv13_0, hv13_1⟩ := topo_va hv13
      refine t_fld ln_part_1 (by assumption) fb_part_1 rfl ?_ rfl
      intro p14 hp14
      refine t_ldi (by assumption) ab_int B rfl ?_ rfl
      refine t_lda (by assumption) ab_part sb_part B rfl ?_ rfl
      intro v16 hv16
      obtain ⟨v16_3, rfl, hv16_3⟩ := part_va hv16
      refine t_move rfl ?_ rfl
      refine t_fld ln_part_3 (by assumption) fb_part_3 rfl ?_ rfl
      intro p19 hp19
      refine t_lds (by assumption) ab_s_hop B rfl ?_ rfl
      intro v20 hv20
      refine t_move rfl ?_ rfl
      obtain ⟨e22, he22⟩ : ∃ e, (p.hops)[k]? = some e := getx (by omega)
      refine t_idx e_hop (k := k) (by assumption) he22 B rfl rfl (by first | rfl | omega) ?_ rfl
      intro p22 hp22
      refine t_lda (by assumption) ab_hop sb_hop B rfl ?_ rfl
      intro v23 hv23
      obtain rfl := hop_va hv23
      refine t_callx Try.call181 rfl (spec_l21Beta _ _ _ _ (by first | assumption | exact VA.below (by assumption) B) (by omega) (by omega)) ?_ rfl rfl
      intro w53 x54
      have B := bx Hb B x54
      have S := S.below x54
      refine t_callx Try.call180 rfl (spec_VerifyHop _ _ _ _ _ _ (by first | assumption | exact VA.below (by assumption) B) (by omega)) ?_ rfl rfl
      intro w55 x56
      have B := bx Hb B x56
      have S := S.below x56
      refine t_notb rfl ?_ rfl
      refine t_done' ?_
      refine x_seq ?_
      refine w_ifb rfl ?_ ?_
      · intro hv
        refine w_seq ?_
        refine w_region ?_
        refine t_assign rfl ?_ rfl
        refine t_done ?_
        refine x_seq ?_
        refine w_ret ?_
        refine x_block_ret ?_
        refine x_then_ret ?_
        refine x_then_ret ?_
        refine x_block_ret ?_
        refine x_then_ret ?_
        refine x_ret1 rfl rfl ?_
        exact ⟨ret_bool (verify_bad he22 (by simpa using hv)).symm, ext_trans X0 B⟩
      · intro hv
        refine w_skip ?_
        refine x_block_normal ?_
        refine x_seq ?_
        refine w_region ?_
        refine t_move rfl ?_ rfl
        refine t_add rfl rfl (by omega) ?_ rfl
        refine t_assign rfl ?_ rfl
        refine t_done ?_
        refine x_round (I := (fun k wq => k ≤ p.hops.length ∧ (∀ (j : Nat) y, j < k → p.hops[j]? = some y → verifyHop t p.ts (hopBeta p j) y = true) ∧ Below w48.heap.size w48 wq ∧ Sep w48.heap.size wq [])) (F := (fun k => [(5, I ((k : Int))), (2, p2), (3, p3)])) (μ := (fun k => p.hops.length - k)) (k + 1) ?_ (by exact ⟨rfl, rfl, rfl, trivial⟩) (by (try dsimp only); omega)
        try dsimp only
        exact ⟨by omega, fun j y hj hy => verify_step ha he22 (by simpa using hv) hj hy, B, S⟩
    · intro hge
      refine w_exit ?_
      refine x_then_exit ?_
      refine x_then_exit ?_
      refine x_block_exit ?_
      refine x_seq ?_
      refine w_seq ?_
      refine w_region ?_
      refine t_assign rfl ?_ rfl
      refine t_done ?_
      refine x_seq ?_
      refine w_ret ?_
      refine x_ret1 rfl rfl ?_
      exact ⟨ret_bool (verify_all fun j y hy => ha j y (by have := (List.getElem?_eq_some_iff.1 hy).1; omega) hy).symm, ext_trans X0 B⟩

end Go.Proofs.Ytfgobdejlfojiaa
