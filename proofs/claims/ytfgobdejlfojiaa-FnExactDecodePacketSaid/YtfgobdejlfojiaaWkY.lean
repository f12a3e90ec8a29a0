/- DecodePacket, of the program and of the reference. -/
import Derived.Test.YtfgobdejlfojiaaWkX
namespace Go.Proofs.Ytfgobdejlfojiaa
open Go.RowKit
set_option linter.unusedVariables false
set_option maxRecDepth 20000

def pk0 : Pkt := ⟨0, 0, 0, [], 0, 0, 0, 0, 0, []⟩
def pktOf (l : List Int) (p : Path) (b : List UInt8) : Pkt := ⟨gI l 0, gI l 1, gI l 2, p, gI l 3, gI l 4, gI l 5, gI l 6, gI l 7, b⟩
def decPkt (b : List UInt8) : Option Pkt := match decI b 0 8 with
  | none => none
  | some (l, j) => match readB b j 40 with
    | none => none
    | some (pay, j2) => match readP b j2 with
      | none => none
      | some (p, j3) => if j3 = b.length then (if validPkt (pktOf l p pay) = true then some (pktOf l p pay) else none) else none
def dp2 : Option Pkt → Pkt × Bool
  | none => (pk0, false)
  | some x => (x, true)
theorem dp_no1 {b : List UInt8} (h : decI b 0 8 = none) : decPkt b = none := by rw [decPkt, h]
theorem dp_no2 {b : List UInt8} {l : List Int} {j : Nat} (h : decI b 0 8 = some (l, j)) (h2 : readB b j 40 = none) : decPkt b = none := by rw [decPkt, h]; simp only [h2]
theorem dp_no3 {b pay : List UInt8} {l : List Int} {j : Nat} {j2 : Int} (h : decI b 0 8 = some (l, j)) (h2 : readB b j 40 = some (pay, j2)) (h3 : readP b j2 = none) : decPkt b = none := by rw [decPkt, h]; simp only [h2, h3]
theorem dp_eq {b pay : List UInt8} {l : List Int} {j j3 : Nat} {j2 : Int} {p : Path} (h : decI b 0 8 = some (l, j)) (h2 : readB b j 40 = some (pay, j2)) (h3 : readP b j2 = some (p, j3)) : decPkt b = if j3 = b.length then (if validPkt (pktOf l p pay) = true then some (pktOf l p pay) else none) else none := by rw [decPkt, h]; simp only [h2, h3]
theorem rp_nope {b : List UInt8} {i j : Int} {p : Path} {ok : Bool} (hr : rp3 (readP b i) = (p, j, ok)) (hok : (!ok) = true) : readP b i = none := by
  cases ok
  · cases ho : readP b i with
    | none => rfl
    | some r => rw [ho] at hr; cases hr
  · cases hok
theorem rp_yep {b : List UInt8} {i j : Int} {p : Path} {ok : Bool} (hr : rp3 (readP b i) = (p, j, ok)) (hok : (!ok) = false) : readP b i = some (p, j.toNat) := by
  cases ok
  · cases hok
  · cases ho : readP b i with
    | none => rw [ho] at hr; cases hr
    | some r => rw [ho] at hr; cases hr; rfl
theorem encPath_rng {p : Path} (h : encPath p = true) : rng_path p := by
  unfold encPath at h
  simp only [Bool.and_eq_true, List.all_eq_true] at h
  intro x hx
  have h1 := h.2 x hx
  unfold encPart encHops at h1
  simp only [Bool.and_eq_true, List.all_eq_true, inR_iff] at h1
  have k1 := h1.1
  have k2 := h1.2.1
  refine ⟨by unfold In64; omega, by unfold In64; omega, by unfold In64; omega, fun y hy => ?_⟩
  have h2 := h1.2.2.2 y hy
  unfold validHop at h2
  simp only [Bool.and_eq_true, inR_iff] at h2
  unfold rng_hop In64
  omega
theorem dp2_sz {b : List UInt8} {x : Pkt} {ok : Bool} (hr : dp2 (decPkt b) = (x, ok)) : sz_pkt x ≤ 67 := by
  cases hd : decPkt b with
  | none => rw [hd] at hr; cases hr; exact Nat.zero_le _
  | some y =>
    rw [hd] at hr
    cases hr
    unfold decPkt at hd
    split at hd
    · cases hd
    · split at hd
      · cases hd
      · rename_i pay j2 hb
        split at hd
        · cases hd
        · rename_i p j3 hp
          split at hd
          · split at hd
            · cases hd
              have h1 := (rb_yes (b := b) (l := pay) (j := j2) (ok := true) (by rw [hb]; rfl) rfl).2.2.2
              have h2 : sz_path p ≤ 27 := encPath_sz (readP_out hp).1
              show sz_path p + pay.length ≤ 67
              omega
            · cases hd
          · cases hd
set_option maxHeartbeats 1000000 in
theorem impl_DecodePacket (b : List UInt8) (v : Value) {x0 : Pkt} {ok0 : Bool} (w : World) (h : SlR byteT w v b) (hz : b.length ≤ 1048576) (hr : dp2 (decPkt b) = (x0, ok0)) : Calls Try.prog 47 #[v] w fun e w' => ∃ cs fp, e = .returned (.tuple #[.agg cs.toArray, .bool ok0]) ∧ pktT.O w.heap.size w' cs x0 fp ∧ Below w.heap.size w w' := by
  obtain ⟨l1, j1, ok1, hr1⟩ : ∃ l j ok, dec3 (decI b 0 8) = (l, j, ok) := ⟨_, _, _, rfl⟩
  obtain ⟨pay, j2, ok2, hr2⟩ : ∃ l j ok, rb3 (readB b j1 40) = (l, j, ok) := ⟨_, _, _, rfl⟩
  obtain ⟨p3, j3, ok3, hr3⟩ : ∃ l j ok, rp3 (readP b j2) = (l, j, ok) := ⟨_, _, _, rfl⟩
  have X0 := Below.refl w.heap.size w
  refine enter Try.func47 rfl Try.ntmps47 rfl ?_
  refine w_seq ?_
  refine w_region ?_
  have S := Sep.nil w
  have B := Below.refl w.heap.size w
  have Hb := Nat.le_refl w.heap.size
  refine t_alloc S z_pkt rfl ?_ rfl rfl
  intro g2 w1 x2 S
  have B := bx Hb B x2
  refine t_assign rfl ?_ rfl
  refine t_done ?_
  refine x_seq ?_
  refine w_seq ?_
  refine w_region ?_
  refine t_move rfl ?_ rfl
  refine t_call Try.call96 rfl (impl_DecodeInts _ _ _ _ _ (by first | assumption | exact SlR.below (by assumption) B) (by omega) hr1) ?_ rfl rfl
  rintro e w3 ⟨v14, fpv14, rfl, hOv14, x4⟩
  refine ⟨_, rfl, x4, ?_⟩
  have S := S.add (o := slO _ _ _ _) x4 hOv14
  have B := bx Hb B x4
  refine t_move rfl ?_ rfl
  refine t_extract rfl rfl ?_ rfl
  refine t_extract rfl rfl ?_ rfl
  refine t_extract rfl rfl ?_ rfl
  refine t_assign rfl ?_ rfl
  refine t_assign rfl ?_ rfl
  refine t_assign rfl ?_ rfl
  refine t_done ?_
  refine x_seq ?_
  refine w_seq ?_
  refine w_seq ?_
  refine w_region ?_
  refine t_move rfl ?_ rfl
  refine t_notb rfl ?_ rfl
  refine t_done ?_
  refine x_seq ?_
  refine w_ifb rfl ?_ ?_
  · intro hno
    refine w_seq ?_
    refine w_region ?_
    refine t_build (fun w => b_pkt w) rfl ?_ rfl
    have S := S.f1
    refine t_stn S sb_pkt rfl rfl rfl rfl (by simp [Value.oneCell']) ?_
    intro w5 b6 S
    have B := B.trans b6
    refine t_assign rfl ?_ rfl
    refine t_done ?_
    refine x_seq ?_
    refine w_ret ?_
    refine x_then_ret ?_
    refine x_retct rfl rfl S.box ab_pkt sb_pkt rfl rfl ?_
    rw [dp_no1 (dec_no hr1 hno)] at hr
    cases hr
    have S := Sep.addNil (T := byteT) (e := 5) S
    have S := Sep.addNil (T := partT) (e := 90) S
    have S := S.pktShut (x := pk0)
    obtain ⟨fp, hO⟩ := (S.mono X0.size).head
    exact ⟨_, fp, rfl, hO, ext_trans X0 B⟩
  intro hyes1
  obtain ⟨ha1, ha2, ha3, ha4, ha5, ha6⟩ := dec_yes hr1 hyes1
  have hl8 : l1.length = 8 := by simpa using ha2
  have hjt : ((j1.toNat : Nat) : Int) = j1 := by omega
  refine w_skip ?_
  refine x_seq ?_
  refine w_seq ?_
  refine w_region ?_
  refine t_move rfl ?_ rfl
  refine t_move rfl ?_ rfl
  refine t_call Try.call115 rfl (impl_ReadBytes _ _ _ _ _ (by first | assumption | exact SlR.below (by assumption) B) (by omega) (by omega) hr2) ?_ rfl rfl
  rintro e w7 ⟨v24, fpv24, rfl, hOv24, x8⟩
  refine ⟨_, rfl, x8, ?_⟩
  have S := S.add (o := slO _ _ _ _) x8 hOv24
  have B := bx Hb B x8
  refine t_move rfl ?_ rfl
  refine t_extract rfl rfl ?_ rfl
  refine t_extract rfl rfl ?_ rfl
  refine t_extract rfl rfl ?_ rfl
  refine t_assign rfl ?_ rfl
  refine t_assign rfl ?_ rfl
  refine t_assign rfl ?_ rfl
  refine t_done ?_
  refine x_seq ?_
  refine w_seq ?_
  refine w_seq ?_
  refine w_region ?_
  refine t_move rfl ?_ rfl
  refine t_notb rfl ?_ rfl
  refine t_done ?_
  refine x_seq ?_
  refine w_ifb rfl ?_ ?_
  · intro hno
    refine w_seq ?_
    refine w_region ?_
    refine t_build (fun w => b_pkt w) rfl ?_ rfl
    have S := S.f2
    refine t_stn S sb_pkt rfl rfl rfl rfl (by simp [Value.oneCell']) ?_
    intro w9 b10 S
    have B := B.trans b10
    refine t_assign rfl ?_ rfl
    refine t_done ?_
    refine x_seq ?_
    refine w_ret ?_
    refine x_then_ret ?_
    refine x_retct rfl rfl S.box ab_pkt sb_pkt rfl rfl ?_
    rw [dp_no2 ha1 (by rw [hjt]; exact rb_no hr2 hno)] at hr
    cases hr
    have S := Sep.addNil (T := byteT) (e := 5) S
    have S := Sep.addNil (T := partT) (e := 90) S
    have S := S.pktShut (x := pk0)
    obtain ⟨fp, hO⟩ := (S.mono X0.size).head
    exact ⟨_, fp, rfl, hO, ext_trans X0 B⟩
  intro hyes2
  obtain ⟨hb1, hb2, hb3, hb4⟩ := rb_yes hr2 hyes2
  rw [← hjt] at hb1
  have hpo := rp3_out hr3
  have hrng : ∀ y ∈ l1, In64 y := fun y hy => by
    have := ha3 y hy
    unfold In64; omega
  obtain ⟨e0, he0⟩ : ∃ e, l1[0]? = some e := getx (by omega)
  obtain ⟨e1, he1⟩ : ∃ e, l1[1]? = some e := getx (by omega)
  obtain ⟨e2, he2⟩ : ∃ e, l1[2]? = some e := getx (by omega)
  obtain ⟨e3, he3⟩ : ∃ e, l1[3]? = some e := getx (by omega)
  obtain ⟨e4, he4⟩ : ∃ e, l1[4]? = some e := getx (by omega)
  obtain ⟨e5, he5⟩ : ∃ e, l1[5]? = some e := getx (by omega)
  obtain ⟨e6, he6⟩ : ∃ e, l1[6]? = some e := getx (by omega)
  obtain ⟨e7, he7⟩ : ∃ e, l1[7]? = some e := getx (by omega)
  have hX : pktOf l1 p3 pay = ⟨e0, e1, e2, p3, e3, e4, e5, e6, e7, pay⟩ := by
    unfold pktOf
    rw [gI_eq he0, gI_eq he1, gI_eq he2, gI_eq he3, gI_eq he4, gI_eq he5, gI_eq he6, gI_eq he7]
  have hsX : sz_pkt ⟨e0, e1, e2, p3, e3, e4, e5, e6, e7, pay⟩ ≤ 1048576 := by show sz_path p3 + pay.length ≤ _; omega
  have hlX : lenOk_pkt ⟨e0, e1, e2, p3, e3, e4, e5, e6, e7, pay⟩ := ⟨lenOk_sz (p := p3) (by omega), by show pay.length ≤ _; omega⟩
  have hM : ∀ {i : Nat} {e : Int}, l1[i]? = some e → In64 e := fun h => hrng _ (List.mem_of_getElem? h)
  have hgX : rng_pkt ⟨e0, e1, e2, p3, e3, e4, e5, e6, e7, pay⟩ := ⟨hM he0, hM he1, hM he2, encPath_rng hpo.2.1, hM he3, hM he4, hM he5, hM he6, hM he7⟩
  refine w_skip ?_
  refine x_seq ?_
  refine w_seq ?_
  refine w_region ?_
  refine t_move rfl ?_ rfl
  refine t_move rfl ?_ rfl
  refine t_call Try.call36 rfl (impl_ReadPath _ _ _ _ (by first | assumption | exact SlR.below (by assumption) B) (by omega) (by omega) hr3) ?_ rfl rfl
  rintro e w11 ⟨cs34, fp34, rfl, hO34, x12⟩
  refine ⟨_, rfl, x12, ?_⟩
  have S := S.add (o := tyO pathT _ _) x12 hO34
  have B := bx Hb B x12
  obtain ⟨u34_0, heq, S2⟩ := S.pathOpen
  subst heq
  have S := S2
  clear S2
  refine t_move rfl ?_ rfl
  refine t_extract rfl rfl ?_ rfl
  refine t_extract rfl rfl ?_ rfl
  refine t_extract rfl rfl ?_ rfl
  refine t_alloc S z_path rfl ?_ rfl rfl
  intro g9 w13 x14 S
  have B := bx Hb B x14
  refine t_stn S sb_path rfl rfl rfl rfl (by intro zz hu; have hu : zz ∈ ([u34_0] : List Value) := hu; simp only [List.mem_cons, List.not_mem_nil, or_false] at hu; rcases hu with rfl <;> first | rfl | exact (SlR.cells (by first | assumption | exact S.tail.sl | exact S.tail.tail.sl | exact S.tail.tail.tail.sl | exact S.tail.tail.tail.tail.sl | exact S.tail.tail.tail.tail.tail.sl | exact S.tail.tail.tail.tail.tail.tail.sl | exact S.tail.tail.tail.tail.tail.tail.tail.sl | exact S.tail.tail.tail.tail.tail.tail.tail.tail.sl)).2) ?_
  intro w15 b16 S
  have B := B.trans b16
  refine t_assign rfl ?_ rfl
  refine t_assign rfl ?_ rfl
  refine t_done ?_
  refine x_seq ?_
  refine w_seq ?_
  refine w_draw (.st .take 0 (.st .take 1 (.st .take 2 (.st .take 3 (.st .take 4 (.st .take 5 (.st .take 6 (.st .take 7 (.st .take 8 (.st .take 9 (.st .take 10 (.st .take 11 (.st .take 12 (.st .take 13 (.st .take 14 (.st .take 15 (.st .take 16 (.st .take 17 (.st .take 18 (.st .take 19 (.st .take 20 (.st .take 21 (.st .take 22 (.st .take 23 (.st .take 24 (.st .take 25 (.st .take 26 (.st .run 27 (.st .fin 28 .done))))))))))))))))))))))))))))) mixed (by kernel_rfl) ?_
  intro w17 x18
  have B := bx Hb B x18
  have S := S.below x18
  refine t_move rfl ?_ rfl
  refine t_idx e_int (k := 0) (S.tail.tail.tail.sl) he0 (Below.refl _ _) rfl rfl (by first | rfl | omega) ?_ rfl
  intro p39 hp39
  refine t_ldi (by assumption) ab_int (Below.refl _ _) rfl ?_ rfl
  refine t_move rfl ?_ rfl
  refine t_idx e_int (k := 1) (S.tail.tail.tail.sl) he1 (Below.refl _ _) rfl rfl (by first | rfl | omega) ?_ rfl
  intro p42 hp42
  refine t_ldi (by assumption) ab_int (Below.refl _ _) rfl ?_ rfl
  refine t_move rfl ?_ rfl
  refine t_idx e_int (k := 2) (S.tail.tail.tail.sl) he2 (Below.refl _ _) rfl rfl (by first | rfl | omega) ?_ rfl
  intro p45 hp45
  refine t_ldi (by assumption) ab_int (Below.refl _ _) rfl ?_ rfl
  refine t_move rfl ?_ rfl
  refine t_idx e_int (k := 3) (S.tail.tail.tail.sl) he3 (Below.refl _ _) rfl rfl (by first | rfl | omega) ?_ rfl
  intro p48 hp48
  refine t_ldi (by assumption) ab_int (Below.refl _ _) rfl ?_ rfl
  refine t_move rfl ?_ rfl
  refine t_idx e_int (k := 4) (S.tail.tail.tail.sl) he4 (Below.refl _ _) rfl rfl (by first | rfl | omega) ?_ rfl
  intro p51 hp51
  refine t_ldi (by assumption) ab_int (Below.refl _ _) rfl ?_ rfl
  refine t_move rfl ?_ rfl
  refine t_idx e_int (k := 5) (S.tail.tail.tail.sl) he5 (Below.refl _ _) rfl rfl (by first | rfl | omega) ?_ rfl
  intro p54 hp54
  refine t_ldi (by assumption) ab_int (Below.refl _ _) rfl ?_ rfl
  refine t_move rfl ?_ rfl
  refine t_idx e_int (k := 6) (S.tail.tail.tail.sl) he6 (Below.refl _ _) rfl rfl (by first | rfl | omega) ?_ rfl
  intro p57 hp57
  refine t_ldi (by assumption) ab_int (Below.refl _ _) rfl ?_ rfl
  refine t_move rfl ?_ rfl
  refine t_idx e_int (k := 7) (S.tail.tail.tail.sl) he7 (Below.refl _ _) rfl rfl (by first | rfl | omega) ?_ rfl
  intro p60 hp60
  refine t_ldi (by assumption) ab_int (Below.refl _ _) rfl ?_ rfl
  refine t_move rfl ?_ rfl
  refine t_bxn S.box ab_path sb_path rfl rfl ?_ rfl
  obtain ⟨Av24, cv24, rfl, _⟩ := S.tail.tail.sl.form
  obtain ⟨Au34_0, cu34_0, rfl, _⟩ := S.tail.sl.form
  refine t_build (fun w => b_pkt_0_1_2_4_5_6_7_8_9_3 _ _ _ _ _ _ _ _ _ _ _ _ _ _ w) rfl ?_ rfl
  refine t_alloc S z_pkt rfl ?_ rfl rfl
  intro g11 w19 x20 S
  have B := bx Hb B x20
  refine t_stn S sb_pkt rfl rfl rfl rfl (by intro zz hu; have hu : zz ∈ ([I e0, I e1, I e2, .slice Au34_0 p3.length cu34_0, I e3, I e4, I e5, I e6, I e7, .slice Av24 pay.length cv24] : List Value) := hu; simp only [List.mem_cons, List.not_mem_nil, or_false] at hu; rcases hu with rfl | rfl | rfl | rfl | rfl | rfl | rfl | rfl | rfl | rfl <;> first | rfl | exact (SlR.cells (by first | assumption | exact S.tail.sl | exact S.tail.tail.sl | exact S.tail.tail.tail.sl | exact S.tail.tail.tail.tail.sl | exact S.tail.tail.tail.tail.tail.sl | exact S.tail.tail.tail.tail.tail.tail.sl | exact S.tail.tail.tail.tail.tail.tail.tail.sl | exact S.tail.tail.tail.tail.tail.tail.tail.tail.sl)).2) ?_
  intro w21 b22 S
  have B := B.trans b22
  refine t_done' ?_
  refine x_seq ?_
  refine w_seq ?_
  refine w_seq ?_
  refine w_region ?_
  refine t_move rfl ?_ rfl
  refine t_notb rfl ?_ rfl
  refine t_move rfl ?_ rfl
  refine t_part (t := 67) rfl ?_ ?_
  · intro hno
    refine t_off rfl rfl rfl ?_ rfl
    refine t_off rfl rfl rfl ?_ rfl
    refine t_off rfl rfl rfl ?_ rfl
    refine t_off rfl rfl rfl ?_ rfl
    refine t_pickt rfl rfl ?_ rfl
    refine t_move rfl ?_ rfl
    refine t_off rfl rfl rfl ?_ rfl
    refine t_off rfl rfl rfl ?_ rfl
    refine t_off rfl rfl rfl ?_ rfl
    refine t_pickt rfl rfl ?_ rfl
    refine t_done ?_
    refine x_seq ?_
    refine w_yes rfl ?_
    refine w_seq ?_
    refine w_region ?_
    refine t_build (fun w => b_pkt w) rfl ?_ rfl
    have S := S.f5
    refine t_stn S sb_pkt rfl rfl rfl rfl (by simp [Value.oneCell']) ?_
    intro w23 b24 S
    have B := B.trans b24
    refine t_assign rfl ?_ rfl
    refine t_done ?_
    refine x_seq ?_
    refine w_ret ?_
    refine x_then_ret ?_
    refine x_retct rfl rfl S.box ab_pkt sb_pkt rfl rfl ?_
    rw [dp_no3 ha1 hb1 (rp_nope hr3 hno)] at hr
    cases hr
    have S := Sep.addNil (T := byteT) (e := 5) S
    have S := Sep.addNil (T := partT) (e := 90) S
    have S := S.pktShut (x := pk0)
    obtain ⟨fp, hO⟩ := (S.mono X0.size).head
    exact ⟨_, fp, rfl, hO, ext_trans X0 B⟩
  intro hyes3
  have hc1 := rp_yep hr3 hyes3
  rw [dp_eq ha1 hb1 hc1, hX] at hr
  have hj3 : ((j3.toNat : Nat) : Int) = j3 := by omega
  refine t_on rfl rfl ?_
  refine t_move rfl ?_ rfl
  refine t_on rfl rfl ?_
  refine t_move rfl ?_ rfl
  refine t_on rfl rfl ?_
  refine t_len e_byte (by assumption) rfl rfl ?_ rfl
  refine t_on rfl rfl ?_
  refine t_neq rfl rfl ?_ rfl
  refine t_pickf rfl rfl ?_ rfl
  refine t_move rfl ?_ rfl
  refine t_partp (t := 73) rfl ?_ ?_
  · intro hne
    refine t_off rfl rfl rfl ?_ rfl
    refine t_off rfl rfl rfl ?_ rfl
    refine t_off rfl rfl rfl ?_ rfl
    refine t_pickt rfl rfl ?_ rfl
    refine t_done ?_
    refine x_seq ?_
    refine w_yes rfl ?_
    refine w_seq ?_
    refine w_region ?_
    refine t_build (fun w => b_pkt w) rfl ?_ rfl
    have S := S.f5
    refine t_stn S sb_pkt rfl rfl rfl rfl (by simp [Value.oneCell']) ?_
    intro w25 b26 S
    have B := B.trans b26
    refine t_assign rfl ?_ rfl
    refine t_done ?_
    refine x_seq ?_
    refine w_ret ?_
    refine x_then_ret ?_
    refine x_retct rfl rfl S.box ab_pkt sb_pkt rfl rfl ?_
    rw [if_neg (by omega)] at hr
    cases hr
    have S := Sep.addNil (T := byteT) (e := 5) S
    have S := Sep.addNil (T := partT) (e := 90) S
    have S := S.pktShut (x := pk0)
    obtain ⟨fp, hO⟩ := (S.mono X0.size).head
    exact ⟨_, fp, rfl, hO, ext_trans X0 B⟩
  intro heq
  rw [if_pos (by omega)] at hr
  refine t_on rfl rfl ?_
  refine t_bxn S.box ab_pkt sb_pkt rfl rfl ?_ rfl
  refine t_on rfl rfl ?_
  refine t_callx Try.call110 rfl (va1 (pkt_mkv (x := ⟨e0, e1, e2, p3, e3, e4, e5, e6, e7, pay⟩) (S.tail.tail.sl) (S.tail.tail.tail.sl)) fun cs h => impl_ValidPacket _ cs _ h hsX hlX hgX) ?_ rfl rfl
  intro w27 x28
  have B := bx Hb B x28
  have S := S.below x28
  refine t_on rfl rfl ?_
  refine t_notb rfl ?_ rfl
  refine t_pickf rfl rfl ?_ rfl
  refine t_done ?_
  refine x_seq ?_
  refine w_ifb rfl ?_ ?_
  · intro hv
    refine w_seq ?_
    refine w_region ?_
    refine t_build (fun w => b_pkt w) rfl ?_ rfl
    have S := S.f5
    refine t_stn S sb_pkt rfl rfl rfl rfl (by simp [Value.oneCell']) ?_
    intro w29 b30 S
    have B := B.trans b30
    refine t_assign rfl ?_ rfl
    refine t_done ?_
    refine x_seq ?_
    refine w_ret ?_
    refine x_then_ret ?_
    refine x_retct rfl rfl S.box ab_pkt sb_pkt rfl rfl ?_
    rw [if_neg (by simpa using hv)] at hr
    cases hr
    have S := Sep.addNil (T := byteT) (e := 5) S
    have S := Sep.addNil (T := partT) (e := 90) S
    have S := S.pktShut (x := pk0)
    obtain ⟨fp, hO⟩ := (S.mono X0.size).head
    exact ⟨_, fp, rfl, hO, ext_trans X0 B⟩
  intro hv
  rw [if_pos (by simpa using hv)] at hr
  refine w_skip ?_
  refine x_seq ?_
  refine w_seq ?_
  refine w_region ?_
  refine t_bxn S.box ab_pkt sb_pkt rfl rfl ?_ rfl
  have S := S.f5
  refine t_stn S sb_pkt rfl rfl rfl rfl (by intro zz hu; have hu : zz ∈ ([I e0, I e1, I e2, .slice Au34_0 p3.length cu34_0, I e3, I e4, I e5, I e6, I e7, .slice Av24 pay.length cv24] : List Value) := hu; simp only [List.mem_cons, List.not_mem_nil, or_false] at hu; rcases hu with rfl | rfl | rfl | rfl | rfl | rfl | rfl | rfl | rfl | rfl <;> first | rfl | exact (SlR.cells (by first | assumption | exact S.tail.sl | exact S.tail.tail.sl | exact S.tail.tail.tail.sl | exact S.tail.tail.tail.tail.sl | exact S.tail.tail.tail.tail.tail.sl | exact S.tail.tail.tail.tail.tail.tail.sl | exact S.tail.tail.tail.tail.tail.tail.tail.sl | exact S.tail.tail.tail.tail.tail.tail.tail.tail.sl)).2) ?_
  intro w31 b32 S
  have B := B.trans b32
  refine t_assign rfl ?_ rfl
  refine t_done ?_
  refine x_seq ?_
  refine w_ret ?_
  refine x_retct rfl rfl S.box ab_pkt sb_pkt rfl rfl ?_
  cases hr
  have S := S.f4
  have S := S.f4
  have S := S.pktShut (x := (⟨e0, e1, e2, p3, e3, e4, e5, e6, e7, pay⟩ : Pkt))
  obtain ⟨fp, hO⟩ := (S.mono X0.size).head
  exact ⟨_, fp, rfl, hO, ext_trans X0 B⟩
set_option maxHeartbeats 1000000 in
theorem spec_DecodePacket (b : List UInt8) (v : Value) {x0 : Pkt} {ok0 : Bool} (w : World) (h : SlR byteT w v b) (hz : b.length ≤ 1048576) (hr : dp2 (decPkt b) = (x0, ok0)) : Calls Try.prog 46 #[v] w fun e w' => ∃ cs fp, e = .returned (.tuple #[.agg cs.toArray, .bool ok0]) ∧ pktT.O w.heap.size w' cs x0 fp ∧ Below w.heap.size w w' := by
  obtain ⟨l1, j1, ok1, hr1⟩ : ∃ l j ok, dec3 (decI b 0 8) = (l, j, ok) := ⟨_, _, _, rfl⟩
  obtain ⟨pay, j2, ok2, hr2⟩ : ∃ l j ok, rb3 (readB b j1 40) = (l, j, ok) := ⟨_, _, _, rfl⟩
  obtain ⟨p3, j3, ok3, hr3⟩ : ∃ l j ok, rp3 (readP b j2) = (l, j, ok) := ⟨_, _, _, rfl⟩
  have X0 := Below.refl w.heap.size w
  refine enter Try.func46 rfl Try.ntmps46 rfl ?_
  refine w_seq ?_
  refine w_region ?_
  have S := Sep.nil w
  have B := Below.refl w.heap.size w
  have Hb := Nat.le_refl w.heap.size
  refine t_alloc S z_pkt rfl ?_ rfl rfl
  intro g2 w33 x34 S
  have B := bx Hb B x34
  refine t_assign rfl ?_ rfl
  refine t_done ?_
  refine x_seq ?_
  refine w_seq ?_
  refine w_region ?_
  refine t_move rfl ?_ rfl
  refine t_call Try.call93 rfl (spec_DecodeInts _ _ _ _ _ (by first | assumption | exact SlR.below (by assumption) B) (by omega) hr1) ?_ rfl rfl
  rintro e w35 ⟨v16, fpv16, rfl, hOv16, x36⟩
  refine ⟨_, rfl, x36, ?_⟩
  have S := S.add (o := slO _ _ _ _) x36 hOv16
  have B := bx Hb B x36
  refine t_move rfl ?_ rfl
  refine t_extract rfl rfl ?_ rfl
  refine t_extract rfl rfl ?_ rfl
  refine t_extract rfl rfl ?_ rfl
  refine t_assign rfl ?_ rfl
  refine t_assign rfl ?_ rfl
  refine t_assign rfl ?_ rfl
  refine t_done ?_
  refine x_seq ?_
  refine w_seq ?_
  refine w_seq ?_
  refine w_region ?_
  refine t_move rfl ?_ rfl
  refine t_notb rfl ?_ rfl
  refine t_done ?_
  refine x_seq ?_
  refine w_ifb rfl ?_ ?_
  · intro hno
    refine w_seq ?_
    refine w_region ?_
    refine t_build (fun w => b_pkt w) rfl ?_ rfl
    have S := S.f1
    refine t_stn S sb_pkt rfl rfl rfl rfl (by simp [Value.oneCell']) ?_
    intro w37 b38 S
    have B := B.trans b38
    refine t_assign rfl ?_ rfl
    refine t_done ?_
    refine x_seq ?_
    refine w_ret ?_
    refine x_then_ret ?_
    refine x_retct rfl rfl S.box ab_pkt sb_pkt rfl rfl ?_
    rw [dp_no1 (dec_no hr1 hno)] at hr
    cases hr
    have S := Sep.addNil (T := byteT) (e := 5) S
    have S := Sep.addNil (T := partT) (e := 90) S
    have S := S.pktShut (x := pk0)
    obtain ⟨fp, hO⟩ := (S.mono X0.size).head
    exact ⟨_, fp, rfl, hO, ext_trans X0 B⟩
  intro hyes1
  obtain ⟨ha1, ha2, ha3, ha4, ha5, ha6⟩ := dec_yes hr1 hyes1
  have hl8 : l1.length = 8 := by simpa using ha2
  have hjt : ((j1.toNat : Nat) : Int) = j1 := by omega
  refine w_skip ?_
  refine x_seq ?_
  refine w_seq ?_
  refine w_region ?_
  refine t_move rfl ?_ rfl
  refine t_move rfl ?_ rfl
  refine t_call Try.call114 rfl (spec_ReadBytes _ _ _ _ _ (by first | assumption | exact SlR.below (by assumption) B) (by omega) (by omega) hr2) ?_ rfl rfl
  rintro e w39 ⟨v26, fpv26, rfl, hOv26, x40⟩
  refine ⟨_, rfl, x40, ?_⟩
  have S := S.add (o := slO _ _ _ _) x40 hOv26
  have B := bx Hb B x40
  refine t_move rfl ?_ rfl
  refine t_extract rfl rfl ?_ rfl
  refine t_extract rfl rfl ?_ rfl
  refine t_extract rfl rfl ?_ rfl
  refine t_assign rfl ?_ rfl
  refine t_assign rfl ?_ rfl
  refine t_assign rfl ?_ rfl
  refine t_done ?_
  refine x_seq ?_
  refine w_seq ?_
  refine w_seq ?_
  refine w_region ?_
  refine t_move rfl ?_ rfl
  refine t_notb rfl ?_ rfl
  refine t_done ?_
  refine x_seq ?_
  refine w_ifb rfl ?_ ?_
  · intro hno
    refine w_seq ?_
    refine w_region ?_
    refine t_build (fun w => b_pkt w) rfl ?_ rfl
    have S := S.f2
    refine t_stn S sb_pkt rfl rfl rfl rfl (by simp [Value.oneCell']) ?_
    intro w41 b42 S
    have B := B.trans b42
    refine t_assign rfl ?_ rfl
    refine t_done ?_
    refine x_seq ?_
    refine w_ret ?_
    refine x_then_ret ?_
    refine x_retct rfl rfl S.box ab_pkt sb_pkt rfl rfl ?_
    rw [dp_no2 ha1 (by rw [hjt]; exact rb_no hr2 hno)] at hr
    cases hr
    have S := Sep.addNil (T := byteT) (e := 5) S
    have S := Sep.addNil (T := partT) (e := 90) S
    have S := S.pktShut (x := pk0)
    obtain ⟨fp, hO⟩ := (S.mono X0.size).head
    exact ⟨_, fp, rfl, hO, ext_trans X0 B⟩
  intro hyes2
  obtain ⟨hb1, hb2, hb3, hb4⟩ := rb_yes hr2 hyes2
  rw [← hjt] at hb1
  have hpo := rp3_out hr3
  have hrng : ∀ y ∈ l1, In64 y := fun y hy => by
    have := ha3 y hy
    unfold In64; omega
  obtain ⟨e0, he0⟩ : ∃ e, l1[0]? = some e := getx (by omega)
  obtain ⟨e1, he1⟩ : ∃ e, l1[1]? = some e := getx (by omega)
  obtain ⟨e2, he2⟩ : ∃ e, l1[2]? = some e := getx (by omega)
  obtain ⟨e3, he3⟩ : ∃ e, l1[3]? = some e := getx (by omega)
  obtain ⟨e4, he4⟩ : ∃ e, l1[4]? = some e := getx (by omega)
  obtain ⟨e5, he5⟩ : ∃ e, l1[5]? = some e := getx (by omega)
  obtain ⟨e6, he6⟩ : ∃ e, l1[6]? = some e := getx (by omega)
  obtain ⟨e7, he7⟩ : ∃ e, l1[7]? = some e := getx (by omega)
  have hX : pktOf l1 p3 pay = ⟨e0, e1, e2, p3, e3, e4, e5, e6, e7, pay⟩ := by
    unfold pktOf
    rw [gI_eq he0, gI_eq he1, gI_eq he2, gI_eq he3, gI_eq he4, gI_eq he5, gI_eq he6, gI_eq he7]
  have hsX : sz_pkt ⟨e0, e1, e2, p3, e3, e4, e5, e6, e7, pay⟩ ≤ 1048576 := by show sz_path p3 + pay.length ≤ _; omega
  have hlX : lenOk_pkt ⟨e0, e1, e2, p3, e3, e4, e5, e6, e7, pay⟩ := ⟨lenOk_sz (p := p3) (by omega), by show pay.length ≤ _; omega⟩
  have hM : ∀ {i : Nat} {e : Int}, l1[i]? = some e → In64 e := fun h => hrng _ (List.mem_of_getElem? h)
  have hgX : rng_pkt ⟨e0, e1, e2, p3, e3, e4, e5, e6, e7, pay⟩ := ⟨hM he0, hM he1, hM he2, encPath_rng hpo.2.1, hM he3, hM he4, hM he5, hM he6, hM he7⟩
  refine w_skip ?_
  refine x_seq ?_
  refine w_seq ?_
  refine w_region ?_
  refine t_move rfl ?_ rfl
  refine t_move rfl ?_ rfl
  refine t_call Try.call34 rfl (spec_ReadPath _ _ _ _ (by first | assumption | exact SlR.below (by assumption) B) (by omega) (by omega) hr3) ?_ rfl rfl
  rintro e w43 ⟨cs36, fp36, rfl, hO36, x44⟩
  refine ⟨_, rfl, x44, ?_⟩
  have S := S.add (o := tyO pathT _ _) x44 hO36
  have B := bx Hb B x44
  obtain ⟨u36_0, heq, S2⟩ := S.pathOpen
  subst heq
  have S := S2
  clear S2
  refine t_move rfl ?_ rfl
  refine t_extract rfl rfl ?_ rfl
  refine t_extract rfl rfl ?_ rfl
  refine t_extract rfl rfl ?_ rfl
  refine t_alloc S z_path rfl ?_ rfl rfl
  intro g10 w45 x46 S
  have B := bx Hb B x46
  refine t_stn S sb_path rfl rfl rfl rfl (by intro zz hu; have hu : zz ∈ ([u36_0] : List Value) := hu; simp only [List.mem_cons, List.not_mem_nil, or_false] at hu; rcases hu with rfl <;> first | rfl | exact (SlR.cells (by first | assumption | exact S.tail.sl | exact S.tail.tail.sl | exact S.tail.tail.tail.sl | exact S.tail.tail.tail.tail.sl | exact S.tail.tail.tail.tail.tail.sl | exact S.tail.tail.tail.tail.tail.tail.sl | exact S.tail.tail.tail.tail.tail.tail.tail.sl | exact S.tail.tail.tail.tail.tail.tail.tail.tail.sl)).2) ?_
  intro w47 b48 S
  have B := B.trans b48
  refine t_assign rfl ?_ rfl
  refine t_assign rfl ?_ rfl
  refine t_done ?_
  refine x_seq ?_
  refine w_seq ?_
  refine w_seq ?_
  refine w_region ?_
  refine t_move rfl ?_ rfl
  refine t_notb rfl ?_ rfl
  refine t_move rfl ?_ rfl
  refine t_part (t := 42) rfl ?_ ?_
  · intro hno
    refine t_off rfl rfl rfl ?_ rfl
    refine t_off rfl rfl rfl ?_ rfl
    refine t_off rfl rfl rfl ?_ rfl
    refine t_off rfl rfl rfl ?_ rfl
    refine t_pickt rfl rfl ?_ rfl
    refine t_done ?_
    refine x_seq ?_
    refine w_yes rfl ?_
    refine w_seq ?_
    refine w_region ?_
    refine t_build (fun w => b_pkt w) rfl ?_ rfl
    have S := S.f4
    refine t_stn S sb_pkt rfl rfl rfl rfl (by simp [Value.oneCell']) ?_
    intro w49 b50 S
    have B := B.trans b50
    refine t_assign rfl ?_ rfl
    refine t_done ?_
    refine x_seq ?_
    refine w_ret ?_
    refine x_then_ret ?_
    refine x_retct rfl rfl S.box ab_pkt sb_pkt rfl rfl ?_
    rw [dp_no3 ha1 hb1 (rp_nope hr3 hno)] at hr
    cases hr
    have S := Sep.addNil (T := byteT) (e := 5) S
    have S := Sep.addNil (T := partT) (e := 90) S
    have S := S.pktShut (x := pk0)
    obtain ⟨fp, hO⟩ := (S.mono X0.size).head
    exact ⟨_, fp, rfl, hO, ext_trans X0 B⟩
  intro hyes3
  have hc1 := rp_yep hr3 hyes3
  rw [dp_eq ha1 hb1 hc1, hX] at hr
  have hj3 : ((j3.toNat : Nat) : Int) = j3 := by omega
  refine t_on rfl rfl ?_
  refine t_move rfl ?_ rfl
  refine t_on rfl rfl ?_
  refine t_move rfl ?_ rfl
  refine t_on rfl rfl ?_
  refine t_len e_byte (by assumption) rfl rfl ?_ rfl
  refine t_on rfl rfl ?_
  refine t_neq rfl rfl ?_ rfl
  refine t_pickf rfl rfl ?_ rfl
  refine t_done ?_
  refine x_seq ?_
  refine w_if rfl ?_ ?_
  · intro hne
    refine w_seq ?_
    refine w_region ?_
    refine t_build (fun w => b_pkt w) rfl ?_ rfl
    have S := S.f4
    refine t_stn S sb_pkt rfl rfl rfl rfl (by simp [Value.oneCell']) ?_
    intro w51 b52 S
    have B := B.trans b52
    refine t_assign rfl ?_ rfl
    refine t_done ?_
    refine x_seq ?_
    refine w_ret ?_
    refine x_then_ret ?_
    refine x_retct rfl rfl S.box ab_pkt sb_pkt rfl rfl ?_
    rw [if_neg (by omega)] at hr
    cases hr
    have S := Sep.addNil (T := byteT) (e := 5) S
    have S := Sep.addNil (T := partT) (e := 90) S
    have S := S.pktShut (x := pk0)
    obtain ⟨fp, hO⟩ := (S.mono X0.size).head
    exact ⟨_, fp, rfl, hO, ext_trans X0 B⟩
  intro heq
  rw [if_pos (by omega)] at hr
  refine w_skip ?_
  refine x_seq ?_
  refine w_seq ?_
  refine w_draw (.st .take 0 (.st .take 1 (.st .take 2 (.st .take 3 (.st .take 4 (.st .take 5 (.st .take 6 (.st .take 7 (.st .take 8 (.st .take 9 (.st .take 10 (.st .take 11 (.st .take 12 (.st .take 13 (.st .take 14 (.st .take 15 (.st .take 16 (.st .take 17 (.st .take 18 (.st .take 19 (.st .take 20 (.st .take 21 (.st .take 22 (.st .take 23 (.st .take 24 (.st .take 25 (.st .take 26 (.st .run 27 (.st .fin 28 .done))))))))))))))))))))))))))))) mixed (by kernel_rfl) ?_
  intro w53 x54
  have B := bx Hb B x54
  have S := S.below x54
  refine t_move rfl ?_ rfl
  refine t_idx e_int (k := 0) (S.tail.tail.tail.sl) he0 (Below.refl _ _) rfl rfl (by first | rfl | omega) ?_ rfl
  intro p50 hp50
  refine t_ldi (by assumption) ab_int (Below.refl _ _) rfl ?_ rfl
  refine t_move rfl ?_ rfl
  refine t_idx e_int (k := 1) (S.tail.tail.tail.sl) he1 (Below.refl _ _) rfl rfl (by first | rfl | omega) ?_ rfl
  intro p53 hp53
  refine t_ldi (by assumption) ab_int (Below.refl _ _) rfl ?_ rfl
  refine t_move rfl ?_ rfl
  refine t_idx e_int (k := 2) (S.tail.tail.tail.sl) he2 (Below.refl _ _) rfl rfl (by first | rfl | omega) ?_ rfl
  intro p56 hp56
  refine t_ldi (by assumption) ab_int (Below.refl _ _) rfl ?_ rfl
  refine t_bxn S.box ab_path sb_path rfl rfl ?_ rfl
  refine t_move rfl ?_ rfl
  refine t_idx e_int (k := 3) (S.tail.tail.tail.sl) he3 (Below.refl _ _) rfl rfl (by first | rfl | omega) ?_ rfl
  intro p60 hp60
  refine t_ldi (by assumption) ab_int (Below.refl _ _) rfl ?_ rfl
  refine t_move rfl ?_ rfl
  refine t_idx e_int (k := 4) (S.tail.tail.tail.sl) he4 (Below.refl _ _) rfl rfl (by first | rfl | omega) ?_ rfl
  intro p63 hp63
  refine t_ldi (by assumption) ab_int (Below.refl _ _) rfl ?_ rfl
  refine t_move rfl ?_ rfl
  refine t_idx e_int (k := 5) (S.tail.tail.tail.sl) he5 (Below.refl _ _) rfl rfl (by first | rfl | omega) ?_ rfl
  intro p66 hp66
  refine t_ldi (by assumption) ab_int (Below.refl _ _) rfl ?_ rfl
  refine t_move rfl ?_ rfl
  refine t_idx e_int (k := 6) (S.tail.tail.tail.sl) he6 (Below.refl _ _) rfl rfl (by first | rfl | omega) ?_ rfl
  intro p69 hp69
  refine t_ldi (by assumption) ab_int (Below.refl _ _) rfl ?_ rfl
  refine t_move rfl ?_ rfl
  refine t_idx e_int (k := 7) (S.tail.tail.tail.sl) he7 (Below.refl _ _) rfl rfl (by first | rfl | omega) ?_ rfl
  intro p72 hp72
  refine t_ldi (by assumption) ab_int (Below.refl _ _) rfl ?_ rfl
  refine t_move rfl ?_ rfl
  obtain ⟨Au36_0, cu36_0, rfl, _⟩ := S.tail.sl.form
  obtain ⟨Av26, cv26, rfl, _⟩ := S.tail.tail.sl.form
  refine t_build (fun w => b_pkt_0_1_2_3_4_5_6_7_8_9 _ _ _ _ _ _ _ _ _ _ _ _ _ _ w) rfl ?_ rfl
  refine t_alloc S z_pkt rfl ?_ rfl rfl
  intro g13 w55 x56 S
  have B := bx Hb B x56
  refine t_stn S sb_pkt rfl rfl rfl rfl (by intro zz hu; have hu : zz ∈ ([I e0, I e1, I e2, .slice Au36_0 p3.length cu36_0, I e3, I e4, I e5, I e6, I e7, .slice Av26 pay.length cv26] : List Value) := hu; simp only [List.mem_cons, List.not_mem_nil, or_false] at hu; rcases hu with rfl | rfl | rfl | rfl | rfl | rfl | rfl | rfl | rfl | rfl <;> first | rfl | exact (SlR.cells (by first | assumption | exact S.tail.sl | exact S.tail.tail.sl | exact S.tail.tail.tail.sl | exact S.tail.tail.tail.tail.sl | exact S.tail.tail.tail.tail.tail.sl | exact S.tail.tail.tail.tail.tail.tail.sl | exact S.tail.tail.tail.tail.tail.tail.tail.sl | exact S.tail.tail.tail.tail.tail.tail.tail.tail.sl)).2) ?_
  intro w57 b58 S
  have B := B.trans b58
  refine t_done' ?_
  refine x_seq ?_
  refine w_seq ?_
  refine w_seq ?_
  refine w_region ?_
  refine t_bxn S.box ab_pkt sb_pkt rfl rfl ?_ rfl
  refine t_callx Try.call106 rfl (va1 (pkt_mkv (x := ⟨e0, e1, e2, p3, e3, e4, e5, e6, e7, pay⟩) (S.tail.tail.sl) (S.tail.tail.tail.sl)) fun cs h => spec_ValidPacket _ cs _ h hsX hlX hgX) ?_ rfl rfl
  intro w59 x60
  have B := bx Hb B x60
  have S := S.below x60
  refine t_notb rfl ?_ rfl
  refine t_done ?_
  refine x_seq ?_
  refine w_ifb rfl ?_ ?_
  · intro hv
    refine w_seq ?_
    refine w_region ?_
    refine t_build (fun w => b_pkt w) rfl ?_ rfl
    have S := S.f5
    refine t_stn S sb_pkt rfl rfl rfl rfl (by simp [Value.oneCell']) ?_
    intro w61 b62 S
    have B := B.trans b62
    refine t_assign rfl ?_ rfl
    refine t_done ?_
    refine x_seq ?_
    refine w_ret ?_
    refine x_then_ret ?_
    refine x_retct rfl rfl S.box ab_pkt sb_pkt rfl rfl ?_
    rw [if_neg (by simpa using hv)] at hr
    cases hr
    have S := Sep.addNil (T := byteT) (e := 5) S
    have S := Sep.addNil (T := partT) (e := 90) S
    have S := S.pktShut (x := pk0)
    obtain ⟨fp, hO⟩ := (S.mono X0.size).head
    exact ⟨_, fp, rfl, hO, ext_trans X0 B⟩
  intro hv
  rw [if_pos (by simpa using hv)] at hr
  refine w_skip ?_
  refine x_seq ?_
  refine w_seq ?_
  refine w_region ?_
  refine t_bxn S.box ab_pkt sb_pkt rfl rfl ?_ rfl
  have S := S.f5
  refine t_stn S sb_pkt rfl rfl rfl rfl (by intro zz hu; have hu : zz ∈ ([I e0, I e1, I e2, .slice Au36_0 p3.length cu36_0, I e3, I e4, I e5, I e6, I e7, .slice Av26 pay.length cv26] : List Value) := hu; simp only [List.mem_cons, List.not_mem_nil, or_false] at hu; rcases hu with rfl | rfl | rfl | rfl | rfl | rfl | rfl | rfl | rfl | rfl <;> first | rfl | exact (SlR.cells (by first | assumption | exact S.tail.sl | exact S.tail.tail.sl | exact S.tail.tail.tail.sl | exact S.tail.tail.tail.tail.sl | exact S.tail.tail.tail.tail.tail.sl | exact S.tail.tail.tail.tail.tail.tail.sl | exact S.tail.tail.tail.tail.tail.tail.tail.sl | exact S.tail.tail.tail.tail.tail.tail.tail.tail.sl)).2) ?_
  intro w63 b64 S
  have B := B.trans b64
  refine t_assign rfl ?_ rfl
  refine t_done ?_
  refine x_seq ?_
  refine w_ret ?_
  refine x_retct rfl rfl S.box ab_pkt sb_pkt rfl rfl ?_
  cases hr
  have S := S.f4
  have S := S.f4
  have S := S.pktShut (x := (⟨e0, e1, e2, p3, e3, e4, e5, e6, e7, pay⟩ : Pkt))
  obtain ⟨fp, hO⟩ := (S.mono X0.size).head
  exact ⟨_, fp, rfl, hO, ext_trans X0 B⟩
end Go.Proofs.Ytfgobdejlfojiaa
