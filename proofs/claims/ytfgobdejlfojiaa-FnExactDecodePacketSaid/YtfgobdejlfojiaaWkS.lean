/- Reading paths out of bytes: ReadHop, readHops, ReadPath, of the program and of the reference. -/
import Derived.Test.YtfgobdejlfojiaaWkR
import Derived.Test.YtfgobdejlfojiaaRunB
namespace Go.Proofs.Ytfgobdejlfojiaa
open Go.RowKit
set_option linter.unusedVariables false
set_option maxRecDepth 20000

def hop0 : Hop := ⟨0, 0, 0, 0, 0⟩
def readHop (b : List UInt8) (i : Int) : Option (Hop × Nat) := match decI b i 5 with
  | none => none
  | some (l, j) => if validHop (hopAt l 0) then some (hopAt l 0, j) else none
def rh3 : Option (Hop × Nat) → Hop × Int × Bool
  | none => (hop0, 0, false)
  | some (h, j) => (h, j, true)
def rhK (b : List UInt8) : Nat → Int → List Hop → Option (List Hop × Int)
  | 0, i, acc => some (acc, i)
  | n + 1, i, acc => match readHop b i with
    | none => none
    | some (h, j) => rhK b n j (acc ++ [h])
def rhs3 : Option (List Hop × Int) → List Hop × Int × Bool
  | none => ([], 0, false)
  | some (l, j) => (l, j, true)
def readHs (b : List UInt8) (i n : Int) : Option (List Hop × Int) := if 8 < n then none else rhK b n.toNat i []
theorem decI_at {b : List UInt8} {i n : Int} (h0 : 0 ≤ i) (h1 : i ≤ b.length) (h2 : 0 ≤ n) (h3 : n ≤ 100) : decI b i n = decA b n.toNat i.toNat [] := by
  rw [decI, inR_iff.2 ⟨h2, h3⟩, inR_iff.2 ⟨h0, h1⟩]; rfl
theorem readHop_no {b : List UInt8} {i : Int} (h : decI b i 5 = none) : readHop b i = none := by rw [readHop, h]
theorem readHop_bad {b : List UInt8} {i : Int} {l : List Int} {j : Nat} (h : decI b i 5 = some (l, j)) (hv : validHop (hopAt l 0) = false) : readHop b i = none := by rw [readHop, h]; simp only [hv]; rfl
theorem readHop_yes {b : List UInt8} {i : Int} {l : List Int} {j : Nat} (h : decI b i 5 = some (l, j)) (hv : validHop (hopAt l 0) = true) : readHop b i = some (hopAt l 0, j) := by rw [readHop, h]; simp only [hv]; rfl
theorem rhK_eq {b : List UInt8} : ∀ (n : Nat) (i : Nat) (acc : List Hop), i ≤ b.length → rhK b n i acc = match decA b (5 * n) i [] with
    | none => none
    | some (l, j) => if (hopsAt l 0 n).all validHop then some (acc ++ hopsAt l 0 n, (j : Int)) else none
  | 0, i, acc, hi => by simp [rhK, decA, hopsAt_zero]
  | n + 1, i, acc, hi => by
    have h5 : decI b (i : Int) 5 = decA b 5 i [] := decI_at (by omega) (by omega) (by omega) (by omega)
    rw [show 5 * (n + 1) = 5 + 5 * n by omega, decA_add, rhK]
    cases hd : decA b 5 i [] with
    | none => rw [readHop_no (h5.trans hd)]
    | some r =>
      obtain ⟨l5, j⟩ := r
      have ho := decA_out hd (fun x hx => by cases hx) hi
      have hl5 : l5.length = 5 := by simpa using ho.1
      have hj : j ≤ b.length := ho.2.2.2
      have hpre := decA_pre (b := b) (5 * n) j l5
      simp only
      rw [hpre]
      cases hv : validHop (hopAt l5 0) with
      | false =>
        rw [readHop_bad (h5.trans hd) hv]
        cases hd2 : decA b (5 * n) j [] with
        | none => rfl
        | some r =>
          obtain ⟨l, j2⟩ := r
          have e1 : hopAt (l5 ++ l) 0 = hopAt l5 0 := by
            unfold hopAt
            simp only [gI_left (a := l5) (b := l) (i := 0) (by omega), gI_left (a := l5) (b := l) (i := 0 + 1) (by omega), gI_left (a := l5) (b := l) (i := 0 + 2) (by omega), gI_left (a := l5) (b := l) (i := 0 + 3) (by omega), gI_left (a := l5) (b := l) (i := 0 + 4) (by omega)]
          simp [hopsAt_cons, e1, hv]
      | true =>
        rw [readHop_yes (h5.trans hd) hv]
        simp only
        rw [rhK_eq n j _ hj]
        cases hd2 : decA b (5 * n) j [] with
        | none => rfl
        | some r =>
          obtain ⟨l, j2⟩ := r
          have e1 : hopAt (l5 ++ l) 0 = hopAt l5 0 := by
            unfold hopAt
            simp only [gI_left (a := l5) (b := l) (i := 0) (by omega), gI_left (a := l5) (b := l) (i := 0 + 1) (by omega), gI_left (a := l5) (b := l) (i := 0 + 2) (by omega), gI_left (a := l5) (b := l) (i := 0 + 3) (by omega), gI_left (a := l5) (b := l) (i := 0 + 4) (by omega)]
          have e2 : hopsAt (l5 ++ l) (0 + 5) n = hopsAt l 0 n := by
            have := hopsAt_app (a := l5) (b := l) (i := 0) (n := n)
            rw [hl5] at this
            rw [show 0 + 5 = 5 + 0 by omega]
            exact this
          simp [hopsAt_cons, e1, e2, hv]
theorem rh_out {b : List UInt8} {i : Int} {h : Hop} {j : Int} {ok : Bool} (hr : rh3 (readHop b i) = (h, j, ok)) (hok : (!ok) = false) : readHop b i = some (h, j.toNat) ∧ i ≤ j ∧ j ≤ b.length ∧ 0 ≤ j ∧ rng_hop h := by
  cases ok
  · cases hok
  · unfold readHop at hr ⊢
    cases hd : decI b i 5 with
    | none => rw [hd] at hr; cases hr
    | some r =>
      obtain ⟨l, m⟩ := r
      have ho := decI_out hd
      rw [hd] at hr
      simp only at hr ⊢
      cases hv : validHop (hopAt l 0) with
      | false => rw [hv] at hr; cases hr
      | true =>
        rw [hv] at hr
        cases hr
        have hi : ∀ x ∈ l, In64 x := fun x hx => by
          have := ho.2.1 x hx
          unfold In64; omega
        exact ⟨rfl, ho.2.2.1, by have := ho.2.2.2; show (m : Int) ≤ _; omega, Int.natCast_nonneg m, gI_in hi _, gI_in hi _, gI_in hi _, gI_in hi _, gI_in hi _⟩
theorem rh_no {b : List UInt8} {i : Int} {h : Hop} {j : Int} {ok : Bool} (hr : rh3 (readHop b i) = (h, j, ok)) (hok : (!ok) = true) : readHop b i = none := by
  cases ok
  · cases ho : readHop b i with
    | none => rfl
    | some r => rw [ho] at hr; cases hr
  · cases hok

theorem impl_ReadHop (b : List UInt8) (v : Value) (i : Int) {h0 : Hop} {j0 : Int} {ok0 : Bool} (w : World) (h : SlR byteT w v b) (hz : b.length ≤ 1048576) (hr : rh3 (readHop b i) = (h0, j0, ok0)) : Calls Try.prog 151 #[v, I i] w fun e w' => e = .returned (.tuple #[.agg #[I h0.ia, I h0.ing, I h0.eg, I h0.exp, I h0.mac], I j0, .bool ok0]) ∧ Below w.heap.size w w' := by
  obtain ⟨l1, j1, ok1, hr1⟩ : ∃ l j ok, dec3 (decI b i 5) = (l, j, ok) := ⟨_, _, _, rfl⟩
  have X0 := Below.refl w.heap.size w
  refine enter Try.func151 rfl Try.ntmps151 rfl ?_
  refine w_seq ?_
  refine w_region ?_
  have S := Sep.nil w
  have B := Below.refl w.heap.size w
  have Hb := Nat.le_refl w.heap.size
  refine t_alloc S z_hop rfl ?_ rfl rfl
  intro g4 w1 x2 S
  have B := bx Hb B x2
  refine t_assign rfl ?_ rfl
  refine t_assign rfl ?_ rfl
  refine t_done ?_
  refine x_seq ?_
  refine w_seq ?_
  refine w_region ?_
  refine t_move rfl ?_ rfl
  refine t_move rfl ?_ rfl
  refine t_call Try.call96 rfl (impl_DecodeInts _ _ _ _ _ (by first | assumption | exact SlR.below (by assumption) B) (by omega) hr1) ?_ rfl rfl
  rintro e w3 ⟨v14, fpv14, rfl, hOv14, x4⟩
  refine ⟨_, rfl, x4, ?_⟩
  have S := S.add (o := slO _ _ _ _) x4 hOv14
  have B := bx Hb B x4
  refine t_move rfl ?_ rfl
  refine t_extract rfl rfl ?_ rfl
  refine t_extract rfl rfl ?_ rfl
  refine t_extract rfl rfl ?_ rfl
  refine t_assign rfl ?_ rfl
  refine t_assign rfl ?_ rfl
  refine t_assign rfl ?_ rfl
  refine t_done ?_
  refine x_seq ?_
  refine w_seq ?_
  refine w_seq ?_
  refine w_region ?_
  refine t_move rfl ?_ rfl
  refine t_notb rfl ?_ rfl
  refine t_done ?_
  refine x_seq ?_
  refine w_ifb rfl ?_ ?_
  · intro hno
    refine w_seq ?_
    refine w_region ?_
    refine t_build (fun w => b_hop0 w) rfl ?_ rfl
    have S := S.f1
    refine t_stn S sb_hop rfl rfl rfl rfl (by simp [Value.oneCell']) ?_
    intro w5 b6 S
    have B := B.trans b6
    refine t_assign rfl ?_ rfl
    refine t_assign rfl ?_ rfl
    refine t_done ?_
    refine x_seq ?_
    refine w_ret ?_
    refine x_then_ret ?_
    refine x_retctt rfl rfl S.box ab_hop sb_hop rfl rfl rfl ?_
    rw [readHop_no (dec_no hr1 hno)] at hr
    cases hr
    exact ⟨rfl, ext_trans X0 B⟩
  intro hyes
  obtain ⟨hy1, hy2, hy3, hy4, hy5, hy6⟩ := dec_yes hr1 hyes
  have hl5 : l1.length = 5 := by simpa using hy2
  refine w_skip ?_
  refine x_seq ?_
  refine w_seq ?_
  refine w_draw (.st .take 0 (.st .take 1 (.st .take 2 (.st .take 3 (.st .take 4 (.st .take 5 (.st .take 6 (.st .take 7 (.st .take 8 (.st .take 9 (.st .take 10 (.st .take 11 (.st .take 12 (.st .take 13 (.st .take 14 (.st .take 15 (.st .run 16 (.st .fin 17 .done)))))))))))))))))) mixed (by kernel_rfl) ?_
  intro w7 x8
  have B := bx Hb B x8
  have S := S.below x8
  refine t_move rfl ?_ rfl
  obtain ⟨e22, he22⟩ : ∃ e, (l1)[0]? = some e := getx (by omega)
  refine t_idx e_int (k := 0) (S.sl) he22 (Below.refl _ _) rfl rfl (by first | rfl | omega) ?_ rfl
  intro p22 hp22
  refine t_ldi (by assumption) ab_int (Below.refl _ _) rfl ?_ rfl
  refine t_move rfl ?_ rfl
  obtain ⟨e25, he25⟩ : ∃ e, (l1)[1]? = some e := getx (by omega)
  refine t_idx e_int (k := 1) (S.sl) he25 (Below.refl _ _) rfl rfl (by first | rfl | omega) ?_ rfl
  intro p25 hp25
  refine t_ldi (by assumption) ab_int (Below.refl _ _) rfl ?_ rfl
  refine t_move rfl ?_ rfl
  obtain ⟨e28, he28⟩ : ∃ e, (l1)[2]? = some e := getx (by omega)
  refine t_idx e_int (k := 2) (S.sl) he28 (Below.refl _ _) rfl rfl (by first | rfl | omega) ?_ rfl
  intro p28 hp28
  refine t_ldi (by assumption) ab_int (Below.refl _ _) rfl ?_ rfl
  refine t_move rfl ?_ rfl
  obtain ⟨e31, he31⟩ : ∃ e, (l1)[3]? = some e := getx (by omega)
  refine t_idx e_int (k := 3) (S.sl) he31 (Below.refl _ _) rfl rfl (by first | rfl | omega) ?_ rfl
  intro p31 hp31
  refine t_ldi (by assumption) ab_int (Below.refl _ _) rfl ?_ rfl
  refine t_move rfl ?_ rfl
  obtain ⟨e34, he34⟩ : ∃ e, (l1)[4]? = some e := getx (by omega)
  refine t_idx e_int (k := 4) (S.sl) he34 (Below.refl _ _) rfl rfl (by first | rfl | omega) ?_ rfl
  intro p34 hp34
  refine t_ldi (by assumption) ab_int (Below.refl _ _) rfl ?_ rfl
  refine t_build (fun w => b_hop _ _ _ _ _ w) rfl ?_ rfl
  refine t_alloc S z_hop rfl ?_ rfl rfl
  intro g10 w9 x10 S
  have B := bx Hb B x10
  refine t_stn S sb_hop rfl rfl rfl rfl (by simp [Value.oneCell']) ?_
  intro w11 b12 S
  have B := B.trans b12
  refine t_done' ?_
  refine x_seq ?_
  refine w_seq ?_
  refine w_seq ?_
  refine w_region ?_
  refine t_bxn S.box ab_hop sb_hop rfl rfl ?_ rfl
  refine t_callx Try.call175 rfl (impl_ValidHop (⟨e22, e25, e28, e31, e34⟩) _) ?_ rfl rfl
  intro w13 x14
  have B := bx Hb B x14
  have S := S.below x14
  refine t_notb rfl ?_ rfl
  refine t_done ?_
  refine x_seq ?_
  have hh : hopAt l1 0 = ⟨e22, e25, e28, e31, e34⟩ := by
    unfold hopAt
    rw [gI_eq he22, gI_eq he25, gI_eq he28, gI_eq he31, gI_eq he34]
  refine w_ifb rfl ?_ ?_
  · intro hbad
    refine w_seq ?_
    refine w_region ?_
    refine t_build (fun w => b_hop0 w) rfl ?_ rfl
    have S := S.f2
    refine t_stn S sb_hop rfl rfl rfl rfl (by simp [Value.oneCell']) ?_
    intro w15 b16 S
    have B := B.trans b16
    refine t_assign rfl ?_ rfl
    refine t_assign rfl ?_ rfl
    refine t_done ?_
    refine x_seq ?_
    refine w_ret ?_
    refine x_then_ret ?_
    refine x_retctt rfl rfl S.box ab_hop sb_hop rfl rfl rfl ?_
    rw [readHop_bad hy1 (by rw [hh]; simpa using hbad)] at hr
    cases hr
    exact ⟨rfl, ext_trans X0 B⟩
  · intro hgood
    refine w_skip ?_
    refine x_seq ?_
    refine w_seq ?_
    refine w_region ?_
    refine t_bxn S.box ab_hop sb_hop rfl rfl ?_ rfl
    refine t_move rfl ?_ rfl
    have S := S.f2
    refine t_stn S sb_hop rfl rfl rfl rfl (by simp [Value.oneCell']) ?_
    intro w17 b18 S
    have B := B.trans b18
    refine t_assign rfl ?_ rfl
    refine t_assign rfl ?_ rfl
    refine t_done ?_
    refine x_seq ?_
    refine w_ret ?_
    refine x_retctt rfl rfl S.box ab_hop sb_hop rfl rfl rfl ?_
    rw [readHop_yes hy1 (by rw [hh]; simpa using hgood), hh] at hr
    have e0 : (h0, j0, ok0) = (⟨e22, e25, e28, e31, e34⟩, j1, true) := by rw [← hr]; simp only [rh3]; congr 2; omega
    cases e0
    exact ⟨rfl, ext_trans X0 B⟩
theorem impl_readHops (b : List UInt8) (v : Value) (i n : Int) {l0 : List Hop} {j0 : Int} {ok0 : Bool} (w : World) (h : SlR byteT w v b) (hz : b.length ≤ 1048576) (hi : 0 ≤ i ∧ i ≤ b.length) (hn : 0 ≤ n) (hr : rhs3 (readHs b i n) = (l0, j0, ok0)) : Calls Try.prog 97 #[v, I i, I n] w fun e w' => ∃ v fp, e = .returned (.tuple #[v, I j0, .bool ok0]) ∧ SlO hopT 93 w.heap.size w' v l0 fp ∧ Below w.heap.size w w' := by
  have X0 := Below.refl w.heap.size w
  refine enter Try.func97 rfl Try.ntmps97 rfl ?_
  refine w_seq ?_
  refine w_region ?_
  have S := Sep.nil w
  have B := Below.refl w.heap.size w
  have Hb := Nat.le_refl w.heap.size
  refine t_assign rfl ?_ rfl
  refine t_assign rfl ?_ rfl
  refine t_assign rfl ?_ rfl
  refine t_done ?_
  refine x_seq ?_
  refine w_seq ?_
  refine w_region ?_
  refine t_assign rfl ?_ rfl
  refine t_done ?_
  refine x_seq ?_
  refine w_seq ?_
  refine w_seq ?_
  refine w_region ?_
  refine t_move rfl ?_ rfl
  refine t_gtr rfl rfl ?_ rfl
  refine t_done ?_
  refine x_seq ?_
  refine w_if rfl ?_ ?_
  · intro h8
    refine w_seq ?_
    refine w_region ?_
    refine t_assign rfl ?_ rfl
    refine t_assign rfl ?_ rfl
    refine t_assign rfl ?_ rfl
    refine t_done ?_
    refine x_seq ?_
    refine w_ret ?_
    refine x_then_ret ?_
    refine x_ret3 rfl rfl rfl rfl ?_
    rw [readHs, if_pos h8] at hr
    cases hr
    obtain ⟨fp, hO⟩ := (S.addNil.mono X0.size).head
    exact ⟨_, fp, rfl, hO, ext_trans X0 B⟩
  intro h8
  rw [readHs, if_neg h8] at hr
  refine w_skip ?_
  refine x_seq ?_
  refine w_seq ?_
  refine w_seq ?_
  refine w_region ?_
  refine t_assign rfl ?_ rfl
  refine t_done ?_
  refine x_seq ?_
  refine w_block ?_
  refine w_loop (X := Nat × Int × List Hop × Value) (fun x wq => (fun k q acc u => k ≤ n.toNat ∧ (0 : Int) ≤ q ∧ q ≤ b.length ∧ acc.length = k ∧ rhK b (n.toNat - k) q acc = rhK b n.toNat i [] ∧ Below w.heap.size w wq ∧ Sep w.heap.size wq [slO hopT 93 u acc]) x.1 x.2.1 x.2.2.1 x.2.2.2) (fun x => (fun k q acc u => [(10, I ((k : Int))), (1, I q), (9, u), (0, v), (2, I n)]) x.1 x.2.1 x.2.2.1 x.2.2.2) (fun x => (fun k q acc u => n.toNat - k) x.1 x.2.1 x.2.2.1 x.2.2.2) (0, i, [], .slice none 0 0) ?_ ⟨rfl, rfl, rfl, rfl, rfl, trivial⟩ ?_
  · exact ⟨by omega, hi.1, hi.2, rfl, rfl, B, S.addNil⟩
  · rintro ⟨k, q, acc, u⟩ w19 hI
    try dsimp only at hI ⊢
    obtain ⟨hk, hq0, hq1, hal, hq, B, S⟩ := hI
    refine w_seq ?_
    refine w_seq ?_
    refine w_region ?_
    refine t_move rfl ?_ rfl
    refine t_move rfl ?_ rfl
    refine t_lss rfl rfl ?_ rfl
    refine t_done ?_
    refine x_seq ?_
    refine w_if rfl ?_ ?_
    · intro hlt
      have hf : n.toNat - k = (n.toNat - (k + 1)) + 1 := by omega
      rw [hf, rhK] at hq
      obtain ⟨x1, j1, ok1, hr1⟩ : ∃ x j ok, rh3 (readHop b q) = (x, j, ok) := ⟨_, _, _, rfl⟩
      refine w_skip ?_
      refine x_seq ?_
      refine w_seq ?_
      refine w_block ?_
      refine w_seq ?_
      refine w_region ?_
      refine t_move rfl ?_ rfl
      refine t_move rfl ?_ rfl
      refine t_callx Try.call151 rfl (impl_ReadHop _ _ _ _ (by first | assumption | exact SlR.below (by assumption) B) (by omega) hr1) ?_ rfl rfl
      intro w20 x21
      have B := bx Hb B x21
      have S := S.below x21
      refine t_move rfl ?_ rfl
      refine t_extract rfl rfl ?_ rfl
      refine t_extract rfl rfl ?_ rfl
      refine t_extract rfl rfl ?_ rfl
      refine t_alloc S z_hop rfl ?_ rfl rfl
      intro g11 w22 x23 S
      have B := bx Hb B x23
      refine t_stn S sb_hop rfl rfl rfl rfl (by simp [Value.oneCell']) ?_
      intro w24 b25 S
      have B := B.trans b25
      refine t_assign rfl ?_ rfl
      refine t_assign rfl ?_ rfl
      refine t_done ?_
      refine x_seq ?_
      refine w_seq ?_
      refine w_seq ?_
      refine w_region ?_
      refine t_move rfl ?_ rfl
      refine t_notb rfl ?_ rfl
      refine t_done ?_
      refine x_seq ?_
      refine w_ifb rfl ?_ ?_
      · intro hno
        refine w_seq ?_
        refine w_region ?_
        refine t_assign rfl ?_ rfl
        refine t_assign rfl ?_ rfl
        refine t_assign rfl ?_ rfl
        refine t_done ?_
        refine x_seq ?_
        refine w_ret ?_
        refine x_then_ret ?_
        refine x_block_ret ?_
        refine x_then_ret ?_
        refine x_then_ret ?_
        refine x_block_ret ?_
        refine x_then_ret ?_
        refine x_ret3 rfl rfl rfl rfl ?_
        rw [rh_no hr1 hno] at hq
        rw [← hq] at hr
        cases hr
        obtain ⟨fp, hO⟩ := (S.tail.addNil.mono X0.size).head
        exact ⟨_, fp, rfl, hO, ext_trans X0 B⟩
      · intro hyes
        obtain ⟨hy1, hy2, hy3, hy4, hy5⟩ := rh_out hr1 hyes
        rw [hy1] at hq
        simp only [Int.toNat_of_nonneg hy4] at hq
        refine w_skip ?_
        refine x_seq ?_
        refine w_seq ?_
        refine w_region ?_
        refine t_move rfl ?_ rfl
        refine t_bxn S.box ab_hop sb_hop rfl rfl ?_ rfl
        refine t_lit (T := hopT) (l := [(x1 : Hop)]) (css := [[I x1.ia, I x1.ing, I x1.eg, I x1.exp, I x1.mac]]) hop_flat S (fun w => bs_hop1 _ _ _ _ _ w) rfl rfl rfl rfl (by simp [maxLen]) (litR_one fun _ => rfl) ?_ rfl rfl
        intro u32 w26 x27 S
        have B := bx Hb B x27
        have hR := S.sl
        have S := S.f2
        refine t_cat hop_flat e_hop S hR rfl rfl rfl (by first | omega | (simp [-List.length_flatMap]; omega)) (by (simp [maxLen, -List.length_flatMap]; try omega)) ?_ rfl
        intro v33 w28 x29 S
        have B := B.trans x29
        clear hR
        have S := S.f1
        have S := S.tail
        refine t_assign rfl ?_ rfl
        refine t_done ?_
        refine x_seq ?_
        refine w_region ?_
        refine t_move rfl ?_ rfl
        refine t_assign rfl ?_ rfl
        refine t_done ?_
        refine x_block_normal ?_
        refine x_seq ?_
        refine w_region ?_
        refine t_move rfl ?_ rfl
        refine t_add rfl rfl (by omega) ?_ rfl
        refine t_assign rfl ?_ rfl
        refine t_done ?_
        have S := S.f1
        have S := S.tail
        refine x_round (I := (fun x wq => (fun k q acc u => k ≤ n.toNat ∧ (0 : Int) ≤ q ∧ q ≤ b.length ∧ acc.length = k ∧ rhK b (n.toNat - k) q acc = rhK b n.toNat i [] ∧ Below w.heap.size w wq ∧ Sep w.heap.size wq [slO hopT 93 u acc]) x.1 x.2.1 x.2.2.1 x.2.2.2)) (F := (fun x => (fun k q acc u => [(10, I ((k : Int))), (1, I q), (9, u), (0, v), (2, I n)]) x.1 x.2.1 x.2.2.1 x.2.2.2)) (μ := (fun x => (fun k q acc u => n.toNat - k) x.1 x.2.1 x.2.2.1 x.2.2.2)) (k + 1, j1, acc ++ [x1], v33) ?_ (by exact ⟨rfl, rfl, rfl, rfl, rfl, trivial⟩) (by (try dsimp only); omega)
        try dsimp only
        exact ⟨by omega, by omega, by omega, by rw [List.length_append, hal]; rfl, hq, B, S⟩
    · intro hge
      refine w_exit ?_
      refine x_then_exit ?_
      refine x_then_exit ?_
      refine x_block_exit ?_
      refine x_seq ?_
      refine w_seq ?_
      refine w_region ?_
      refine t_move rfl ?_ rfl
      refine t_move rfl ?_ rfl
      refine t_assign rfl ?_ rfl
      refine t_assign rfl ?_ rfl
      refine t_assign rfl ?_ rfl
      refine t_done ?_
      refine x_seq ?_
      refine w_ret ?_
      refine x_ret3 rfl rfl rfl rfl ?_
      have : n.toNat - k = 0 := by omega
      rw [this] at hq
      rw [← hq] at hr
      cases hr
      obtain ⟨fp, hO⟩ := (S.mono X0.size).head
      exact ⟨_, fp, rfl, hO, ext_trans X0 B⟩

theorem rhs_no {o : Option (List Hop × Int)} {l : List Hop} {j : Int} {ok : Bool} (hr : rhs3 o = (l, j, ok)) (hok : (!ok) = true) : o = none := by
  cases ok
  · cases o with
    | none => rfl
    | some r => cases hr
  · cases hok
theorem rhs_yes {o : Option (List Hop × Int)} {l : List Hop} {j : Int} {ok : Bool} (hr : rhs3 o = (l, j, ok)) (hok : (!ok) = false) : o = some (l, j) := by
  cases ok
  · cases hok
  · cases o with
    | none => cases hr
    | some r => cases hr; rfl
theorem readHs_eq {b : List UInt8} {j : Nat} {n : Int} (hj : j ≤ b.length) (h8 : n ≤ 8) : readHs b j n = match decA b (5 * n.toNat) j [] with
    | none => none
    | some (l, m) => if (hopsAt l 0 n.toNat).all validHop then some (hopsAt l 0 n.toNat, (m : Int)) else none := by
  rw [readHs, if_neg (by omega), rhK_eq _ _ _ hj]
  cases decA b (5 * n.toNat) j [] with
  | none => rfl
  | some r => rfl
theorem hopsAt_in {l : List Int} (h : ∀ x ∈ l, In64 x) (i n : Nat) : ∀ x ∈ hopsAt l i n, rng_hop x := by
  intro x hx
  obtain ⟨j, _, rfl⟩ := List.mem_map.1 hx
  exact ⟨gI_in h _, gI_in h _, gI_in h _, gI_in h _, gI_in h _⟩
theorem rp_yes {b : List UInt8} {n i j : Nat} {acc : Path} {h : List Int} {hs : List Hop} {j2 : Int} (hd : decA b 4 i [] = some (h, j)) (hj : j ≤ b.length) (hr : readHs b j (gI h 3) = some (hs, j2)) :
    rpK b (n + 1) i acc = rpK b n j2.toNat (acc ++ [⟨gI h 0, gI h 1, gI h 2, hs⟩]) ∧ 0 ≤ j2 ∧ j2 ≤ b.length ∧ hs.length ≤ 8 ∧ ∀ x ∈ hs, rng_hop x := by
  by_cases h8 : 8 < gI h 3
  · rw [readHs, if_pos h8] at hr; cases hr
  · rw [readHs_eq hj (by omega)] at hr
    cases hd2 : decA b (5 * (gI h 3).toNat) j [] with
    | none => rw [hd2] at hr; cases hr
    | some r =>
      obtain ⟨l, m⟩ := r
      have ho := decA_out hd2 (fun x hx => by cases hx) hj
      have hin : ∀ x ∈ l, In64 x := fun x hx => by
        have := ho.2.1 x hx
        unfold In64; omega
      rw [hd2] at hr
      simp only at hr
      cases hv : (hopsAt l 0 (gI h 3).toNat).all validHop with
      | false => rw [hv] at hr; cases hr
      | true =>
        rw [hv] at hr
        cases hr
        rw [rpK, hd]
        simp only [if_neg h8, hd2]
        exact ⟨rfl, Int.natCast_nonneg _, by have := ho.2.2.2; show (m : Int) ≤ _; omega, by rw [hopsAt_len]; omega, hopsAt_in hin _ _⟩
theorem rp_no {b : List UInt8} {n i j : Nat} {acc : Path} {h : List Int} (hd : decA b 4 i [] = some (h, j)) (hj : j ≤ b.length) (hr : readHs b j (gI h 3) = none) : rpK b (n + 1) i acc = none := by
  rw [rpK, hd]
  by_cases h8 : 8 < gI h 3
  · simp only [if_pos h8]
  · simp only [if_neg h8]
    rw [readHs_eq hj (by omega)] at hr
    cases hd2 : decA b (5 * (gI h 3).toNat) j [] with
    | none => rfl
    | some r =>
      obtain ⟨l, m⟩ := r
      rw [hd2] at hr
      simp only at hr ⊢
      cases hv : (hopsAt l 0 (gI h 3).toNat).all validHop with
      | true => rw [hv] at hr; cases hr
      | false =>
        refine rpK_spoilt _ _ _ ?_
        cases he : encPath (acc ++ [partOfI h l]) with
        | false => rfl
        | true =>
          exfalso
          unfold encPath at he
          simp only [Bool.and_eq_true, List.all_append, List.all_cons, List.all_nil, Bool.and_true] at he
          have h1 := he.2.2
          unfold encPart encHops at h1
          simp only [Bool.and_eq_true] at h1
          have h2 : (partOfI h l).hops = hopsAt l 0 (gI h 3).toNat := rfl
          rw [h2, hv] at h1
          exact absurd h1.2.2.2 (by decide)
theorem rp_none {b : List UInt8} {n i : Nat} {acc : Path} (hd : decA b 4 i [] = none) : rpK b (n + 1) i acc = none := by rw [rpK, hd]
theorem rp_end {b : List UInt8} {i : Nat} {acc : Path} : rpK b 0 i acc = if encPath acc then some (acc, i) else none := rfl
theorem readP_no {b : List UInt8} {i : Int} (h : readVI b i = none) : readP b i = none := by rw [readP, h]
theorem readP_big {b : List UInt8} {i n : Int} {j : Nat} (h : readVI b i = some (n, j)) (hn : 3 < n) : readP b i = none := by rw [readP, h]; simp only [if_pos hn]
theorem readP_eq {b : List UInt8} {i n : Int} {j : Nat} (h : readVI b i = some (n, j)) (hn : ¬ 3 < n) : readP b i = rpK b n.toNat j [] := by rw [readP, h]; simp only [if_neg hn]
theorem rp3_out {b : List UInt8} {i : Int} {p : Path} {j : Int} {ok : Bool} (hr : rp3 (readP b i) = (p, j, ok)) : sz_path p ≤ 27 ∧ encPath p = true ∧ 0 ≤ j ∧ j ≤ b.length := by
  cases ho : readP b i with
  | none => rw [ho] at hr; cases hr; exact ⟨by decide, by decide, by omega, by omega⟩
  | some r =>
    obtain ⟨q, m⟩ := r
    have := readP_out ho
    rw [ho] at hr
    cases hr
    exact ⟨encPath_sz this.1, this.1, Int.natCast_nonneg _, by have := this.2; show (m : Int) ≤ _; omega⟩

theorem impl_ReadPath (b : List UInt8) (v : Value) (i : Int) {p0 : Path} {j0 : Int} {ok0 : Bool} (w : World) (h : SlR byteT w v b) (hz : b.length ≤ 1048576) (hi : i ≤ 9223372036854775807) (hr : rp3 (readP b i) = (p0, j0, ok0)) : Calls Try.prog 36 #[v, I i] w fun e w' => ∃ cs fp, e = .returned (.tuple #[.agg cs.toArray, I j0, .bool ok0]) ∧ pathT.O w.heap.size w' cs p0 fp ∧ Below w.heap.size w w' := by
  obtain ⟨n1, j1, ok1, hr1⟩ : ∃ n j ok, rv3 (readVI b i) = (n, j, ok) := ⟨_, _, _, rfl⟩
  have X0 := Below.refl w.heap.size w
  refine enter Try.func36 rfl Try.ntmps36 rfl ?_
  refine w_seq ?_
  refine w_region ?_
  have S := Sep.nil w
  have B := Below.refl w.heap.size w
  have Hb := Nat.le_refl w.heap.size
  refine t_alloc S z_path rfl ?_ rfl rfl
  intro g4 w30 x31 S
  have B := bx Hb B x31
  refine t_assign rfl ?_ rfl
  refine t_assign rfl ?_ rfl
  refine t_done ?_
  refine x_seq ?_
  refine w_seq ?_
  refine w_region ?_
  refine t_move rfl ?_ rfl
  refine t_move rfl ?_ rfl
  refine t_callx Try.call95 rfl (impl_ReadVarint _ _ _ _ (by first | assumption | exact SlR.below (by assumption) B) (by omega) (by omega) hr1) ?_ rfl rfl
  intro w32 x33
  have B := bx Hb B x33
  have S := S.below x33
  refine t_move rfl ?_ rfl
  refine t_extract rfl rfl ?_ rfl
  refine t_extract rfl rfl ?_ rfl
  refine t_extract rfl rfl ?_ rfl
  refine t_assign rfl ?_ rfl
  refine t_assign rfl ?_ rfl
  refine t_assign rfl ?_ rfl
  refine t_done ?_
  refine x_seq ?_
  refine w_seq ?_
  refine w_seq ?_
  refine w_region ?_
  refine t_move rfl ?_ rfl
  refine t_notb rfl ?_ rfl
  refine t_move rfl ?_ rfl
  refine t_part (t := 26) rfl ?_ ?_
  · intro hno
    refine t_off rfl rfl rfl ?_ rfl
    refine t_off rfl rfl rfl ?_ rfl
    refine t_pickt rfl rfl ?_ rfl
    refine t_done ?_
    refine x_seq ?_
    refine w_yes rfl ?_
    refine w_seq ?_
    refine w_region ?_
    refine t_build (fun w => b_path0 w) rfl ?_ rfl
    refine t_stn S sb_path rfl rfl rfl rfl (by simp [Value.oneCell']) ?_
    intro w34 b35 S
    have B := B.trans b35
    refine t_assign rfl ?_ rfl
    refine t_assign rfl ?_ rfl
    refine t_done ?_
    refine x_seq ?_
    refine w_ret ?_
    refine x_then_ret ?_
    refine x_retctt rfl rfl S.box ab_path sb_path rfl rfl rfl ?_
    rw [readP_no (rv_no hr1 hno)] at hr
    cases hr
    obtain ⟨fp, hO⟩ := ((S.addNil (T := partT) (e := 90)).pathShut (x := [])).head
    exact ⟨_, fp, rfl, pathT.mono _ _ _ _ _ _ X0.size hO, ext_trans X0 B⟩
  intro hyes
  obtain ⟨hy1, hy2, hy3, hy4, hy5, hy6⟩ := rv_yes hr1 hyes
  refine t_on rfl rfl ?_
  refine t_move rfl ?_ rfl
  refine t_on rfl rfl ?_
  refine t_gtr rfl rfl ?_ rfl
  refine t_pickf rfl rfl ?_ rfl
  refine t_done ?_
  refine x_seq ?_
  refine w_if rfl ?_ ?_
  · intro hbig
    refine w_seq ?_
    refine w_region ?_
    refine t_build (fun w => b_path0 w) rfl ?_ rfl
    refine t_stn S sb_path rfl rfl rfl rfl (by simp [Value.oneCell']) ?_
    intro w36 b37 S
    have B := B.trans b37
    refine t_assign rfl ?_ rfl
    refine t_assign rfl ?_ rfl
    refine t_done ?_
    refine x_seq ?_
    refine w_ret ?_
    refine x_then_ret ?_
    refine x_retctt rfl rfl S.box ab_path sb_path rfl rfl rfl ?_
    rw [readP_big hy1 (by omega)] at hr
    cases hr
    obtain ⟨fp, hO⟩ := ((S.addNil (T := partT) (e := 90)).pathShut (x := [])).head
    exact ⟨_, fp, rfl, pathT.mono _ _ _ _ _ _ X0.size hO, ext_trans X0 B⟩
  intro hbig
  rw [readP_eq hy1 (by omega)] at hr
  refine w_skip ?_
  refine x_seq ?_
  refine w_seq ?_
  refine w_region ?_
  refine t_alloc S z_path rfl ?_ rfl rfl
  intro g9 w38 x39 S
  have B := bx Hb B x39
  refine t_done ?_
  refine x_seq ?_
  refine w_seq ?_
  refine w_seq ?_
  refine w_region ?_
  refine t_assign rfl ?_ rfl
  refine t_done ?_
  refine x_seq ?_
  refine w_block ?_
  refine w_loop (X := Nat × Int × Path × Value) (fun x wq => (fun k q acc u => k ≤ n1.toNat ∧ (0 : Int) ≤ q ∧ q ≤ b.length ∧ List.length acc = k ∧ sz_path acc ≤ 9 * k ∧ rng_path acc ∧ rpK b (n1.toNat - k) q.toNat acc = rpK b n1.toNat j1.toNat [] ∧ Below w.heap.size w wq ∧ Sep w.heap.size wq [bxO g9 39 #[u], slO partT 90 u acc, bxO g4 39 #[.slice none 0 0]]) x.1 x.2.1 x.2.2.1 x.2.2.2) (fun x => (fun k q acc u => [(10, I ((k : Int))), (1, I q), (0, v), (4, .pointer (some ⟨g4, 0, none⟩)), (7, I n1), (9, .pointer (some ⟨g9, 0, none⟩))]) x.1 x.2.1 x.2.2.1 x.2.2.2) (fun x => (fun k q acc u => n1.toNat - k) x.1 x.2.1 x.2.2.1 x.2.2.2) (0, j1, [], .slice none 0 0) ?_ ⟨rfl, rfl, rfl, rfl, rfl, rfl, trivial⟩ ?_
  · exact ⟨by omega, (by show (0 : Int) ≤ j1; omega), hy5, rfl, Nat.le_refl _, (fun x hx => by cases hx), rfl, B, S.addNil.f1⟩
  · rintro ⟨k, q, acc, u⟩ w40 hI
    try dsimp only at hI ⊢
    obtain ⟨hk, hq0, hq1, hal, hsz, hrg, hq, B, S⟩ := hI
    refine w_seq ?_
    refine w_seq ?_
    refine w_region ?_
    refine t_move rfl ?_ rfl
    refine t_move rfl ?_ rfl
    refine t_lss rfl rfl ?_ rfl
    refine t_done ?_
    refine x_seq ?_
    refine w_if rfl ?_ ?_
    · intro hlt
      have hf : n1.toNat - k = (n1.toNat - (k + 1)) + 1 := by omega
      rw [hf] at hq
      obtain ⟨l2, j2, ok2, hr2⟩ : ∃ l j ok, dec3 (decI b q 4) = (l, j, ok) := ⟨_, _, _, rfl⟩
      have hd4 : decI b q 4 = decA b 4 q.toNat [] := decI_at hq0 hq1 (by omega) (by omega)
      refine w_skip ?_
      refine x_seq ?_
      refine w_seq ?_
      refine w_block ?_
      refine w_seq ?_
      refine w_region ?_
      refine t_move rfl ?_ rfl
      refine t_move rfl ?_ rfl
      refine t_call Try.call96 rfl (impl_DecodeInts _ _ _ _ _ (by first | assumption | exact SlR.below (by assumption) B) (by omega) hr2) ?_ rfl rfl
      rintro e w41 ⟨v39, fpv39, rfl, hOv39, x42⟩
      refine ⟨_, rfl, x42, ?_⟩
      have S := S.add (o := slO _ _ _ _) x42 hOv39
      have B := bx Hb B x42
      refine t_move rfl ?_ rfl
      refine t_extract rfl rfl ?_ rfl
      refine t_extract rfl rfl ?_ rfl
      refine t_extract rfl rfl ?_ rfl
      refine t_assign rfl ?_ rfl
      refine t_assign rfl ?_ rfl
      refine t_assign rfl ?_ rfl
      refine t_done ?_
      refine x_seq ?_
      refine w_seq ?_
      refine w_seq ?_
      refine w_region ?_
      refine t_move rfl ?_ rfl
      refine t_notb rfl ?_ rfl
      refine t_done ?_
      refine x_seq ?_
      refine w_ifb rfl ?_ ?_
      · intro hno
        refine w_seq ?_
        refine w_region ?_
        refine t_build (fun w => b_path0 w) rfl ?_ rfl
        have S := S.f3
        refine t_stn S sb_path rfl rfl rfl rfl (by simp [Value.oneCell']) ?_
        intro w43 b44 S
        have B := B.trans b44
        refine t_assign rfl ?_ rfl
        refine t_assign rfl ?_ rfl
        refine t_done ?_
        refine x_seq ?_
        refine w_ret ?_
        refine x_then_ret ?_
        refine x_block_ret ?_
        refine x_then_ret ?_
        refine x_then_ret ?_
        refine x_block_ret ?_
        refine x_then_ret ?_
        refine x_retctt rfl rfl S.box ab_path sb_path rfl rfl rfl ?_
        have hdn := dec_no hr2 hno
        rw [hd4] at hdn
        rw [rp_none hdn] at hq
        rw [← hq] at hr
        cases hr
        obtain ⟨fp, hO⟩ := ((S.addNil (T := partT) (e := 90)).pathShut (x := [])).head
        exact ⟨_, fp, rfl, pathT.mono _ _ _ _ _ _ X0.size hO, ext_trans X0 B⟩
      intro hyes2
      obtain ⟨ha1, ha2, ha3, ha4, ha5, ha6⟩ := dec_yes hr2 hyes2
      rw [hd4] at ha1
      have hl4 : l2.length = 4 := by simpa using ha2
      have hin : ∀ x ∈ l2, In64 x := fun x hx => by
        have := ha3 x hx
        unfold In64; omega
      obtain ⟨e50, he50⟩ : ∃ e, l2[3]? = some e := getx (by omega)
      have hg3 := gI_eq he50
      have h50 := ha3 e50 (List.mem_of_getElem? he50)
      obtain ⟨l3, j3, ok3, hr3⟩ : ∃ l j ok, rhs3 (readHs b j2 e50) = (l, j, ok) := ⟨_, _, _, rfl⟩
      have hj2 : ((j2.toNat : Nat) : Int) = j2 := Int.toNat_of_nonneg ha6
      refine w_skip ?_
      refine x_seq ?_
      refine w_seq ?_
      refine w_region ?_
      refine t_move rfl ?_ rfl
      refine t_move rfl ?_ rfl
      refine t_move rfl ?_ rfl
      refine t_idx e_int (k := 3) (S.sl) he50 (Below.refl _ _) rfl rfl (by first | rfl | omega) ?_ rfl
      intro p50 hp50
      refine t_ldi (by assumption) ab_int (Below.refl _ _) rfl ?_ rfl
      refine t_call Try.call97 rfl (impl_readHops _ _ _ _ _ (by first | assumption | exact SlR.below (by assumption) B) (by omega) (by omega) (by omega) hr3) ?_ rfl rfl
      rintro e w45 ⟨v52, fpv52, rfl, hOv52, x46⟩
      refine ⟨_, rfl, x46, ?_⟩
      have S := S.add (o := slO _ _ _ _) x46 hOv52
      have B := bx Hb B x46
      refine t_move rfl ?_ rfl
      refine t_extract rfl rfl ?_ rfl
      refine t_extract rfl rfl ?_ rfl
      refine t_extract rfl rfl ?_ rfl
      refine t_assign rfl ?_ rfl
      refine t_assign rfl ?_ rfl
      refine t_assign rfl ?_ rfl
      refine t_done ?_
      refine x_seq ?_
      refine w_seq ?_
      refine w_seq ?_
      refine w_region ?_
      refine t_move rfl ?_ rfl
      refine t_notb rfl ?_ rfl
      refine t_done ?_
      refine x_seq ?_
      refine w_ifb rfl ?_ ?_
      · intro hno
        refine w_seq ?_
        refine w_region ?_
        refine t_build (fun w => b_path0 w) rfl ?_ rfl
        have S := S.f4
        refine t_stn S sb_path rfl rfl rfl rfl (by simp [Value.oneCell']) ?_
        intro w47 b48 S
        have B := B.trans b48
        refine t_assign rfl ?_ rfl
        refine t_assign rfl ?_ rfl
        refine t_done ?_
        refine x_seq ?_
        refine w_ret ?_
        refine x_then_ret ?_
        refine x_block_ret ?_
        refine x_then_ret ?_
        refine x_then_ret ?_
        refine x_block_ret ?_
        refine x_then_ret ?_
        refine x_retctt rfl rfl S.box ab_path sb_path rfl rfl rfl ?_
        have hdn := rhs_no hr3 hno
        rw [rp_no ha1 (by omega) (by rw [hg3, hj2]; exact hdn)] at hq
        rw [← hq] at hr
        cases hr
        obtain ⟨fp, hO⟩ := ((S.addNil (T := partT) (e := 90)).pathShut (x := [])).head
        exact ⟨_, fp, rfl, pathT.mono _ _ _ _ _ _ X0.size hO, ext_trans X0 B⟩
      intro hyes3
      have hdy := rhs_yes hr3 hyes3
      obtain ⟨hb1, hb2, hb3, hb4, hb5⟩ := rp_yes (n := n1.toNat - (k + 1)) (acc := acc) ha1 (by omega) (by rw [hg3, hj2]; exact hdy)
      obtain ⟨e62, he62⟩ : ∃ e, l2[0]? = some e := getx (by omega)
      obtain ⟨e65, he65⟩ : ∃ e, l2[1]? = some e := getx (by omega)
      obtain ⟨e68, he68⟩ : ∃ e, l2[2]? = some e := getx (by omega)
      rw [gI_eq he62, gI_eq he65, gI_eq he68, hq] at hb1
      refine w_skip ?_
      refine x_seq ?_
      refine w_seq ?_
      refine w_draw (.st .take 0 (.st .take 1 (.st .take 2 (.st .take 3 (.st .take 4 (.st .take 5 (.st .take 6 (.st .take 7 (.st .take 8 (.st .take 9 (.st .take 10 (.st .take 11 (.st .take 12 (.st .run 13 (.st .fin 14 (.st .fin 15 (.st .fin 16 .done))))))))))))))))) mixed (by kernel_rfl) ?_
      intro w49 x50
      have B := bx Hb B x50
      have S := S.below x50
      refine t_fldx fb_path_0 rfl rfl ?_ rfl
      refine t_bx1 S.tail.tail.box ab_s_part rfl rfl ?_ rfl
      refine t_move rfl ?_ rfl
      refine t_idx e_int (k := 0) (S.tail.sl) he62 (Below.refl _ _) rfl rfl (by first | rfl | omega) ?_ rfl
      intro p62 hp62
      refine t_ldi (by assumption) ab_int (Below.refl _ _) rfl ?_ rfl
      refine t_move rfl ?_ rfl
      refine t_idx e_int (k := 1) (S.tail.sl) he65 (Below.refl _ _) rfl rfl (by first | rfl | omega) ?_ rfl
      intro p65 hp65
      refine t_ldi (by assumption) ab_int (Below.refl _ _) rfl ?_ rfl
      refine t_move rfl ?_ rfl
      refine t_idx e_int (k := 2) (S.tail.sl) he68 (Below.refl _ _) rfl rfl (by first | rfl | omega) ?_ rfl
      intro p68 hp68
      refine t_ldi (by assumption) ab_int (Below.refl _ _) rfl ?_ rfl
      refine t_move rfl ?_ rfl
      obtain ⟨Av52, cv52, rfl, _⟩ := S.sl.form
      refine t_build (fun w => b_part _ _ _ _ _ _ w) rfl ?_ rfl
      refine t_lit1 (fun w => bs_part1 _ _ _ _ w) rfl ?_ rfl rfl
      intro A72 w51 x52 hA72
      have B := bx Hb B x52
      have S := S.below x52
      have S := S.partShut (x := (⟨e62, e65, e68, l3⟩ : Part))
      have S := S.f3
      refine t_snoc e_part S hA72 rfl rfl rfl (by first | omega | (simp; done)) (by (simp only [maxLen]); first | omega | (simp; done)) ?_ rfl
      intro v73 w53 x54 S
      have B := B.trans x54
      refine t_fldx fb_path_0 rfl rfl ?_ rfl
      obtain ⟨Av73, cv73, rfl, _⟩ := S.sl.form
      have S := S.f2
      refine t_st1 S sb_s_part rfl rfl rfl rfl rfl ?_
      intro w55 b56 S
      have B := B.trans b56
      refine t_done' ?_
      refine x_seq ?_
      refine w_region ?_
      refine t_move rfl ?_ rfl
      refine t_assign rfl ?_ rfl
      refine t_done ?_
      refine x_block_normal ?_
      refine x_seq ?_
      refine w_region ?_
      refine t_move rfl ?_ rfl
      refine t_add rfl rfl (by omega) ?_ rfl
      refine t_assign rfl ?_ rfl
      refine t_done ?_
      have S := S.f2
      have S := S.tail
      refine x_round (I := (fun x wq => (fun k q acc u => k ≤ n1.toNat ∧ (0 : Int) ≤ q ∧ q ≤ b.length ∧ List.length acc = k ∧ sz_path acc ≤ 9 * k ∧ rng_path acc ∧ rpK b (n1.toNat - k) q.toNat acc = rpK b n1.toNat j1.toNat [] ∧ Below w.heap.size w wq ∧ Sep w.heap.size wq [bxO g9 39 #[u], slO partT 90 u acc, bxO g4 39 #[.slice none 0 0]]) x.1 x.2.1 x.2.2.1 x.2.2.2)) (F := (fun x => (fun k q acc u => [(10, I ((k : Int))), (1, I q), (0, v), (4, .pointer (some ⟨g4, 0, none⟩)), (7, I n1), (9, .pointer (some ⟨g9, 0, none⟩))]) x.1 x.2.1 x.2.2.1 x.2.2.2)) (μ := (fun x => (fun k q acc u => n1.toNat - k) x.1 x.2.1 x.2.2.1 x.2.2.2)) (k + 1, j3, acc ++ [⟨e62, e65, e68, l3⟩], .slice Av73 (acc ++ [(⟨e62, e65, e68, l3⟩ : Part)]).length cv73) ?_ (by exact ⟨rfl, rfl, rfl, rfl, rfl, rfl, trivial⟩) (by (try dsimp only); omega)
      try dsimp only
      refine ⟨by omega, hb2, hb3, by rw [List.length_append, hal]; rfl, by rw [sz_snoc]; show sz_path acc + 1 + l3.length ≤ _; omega, ?_, hb1.symm, B, S⟩
      intro x hx
      rcases List.mem_append.1 hx with hx | hx
      · exact hrg x hx
      · rw [List.mem_singleton] at hx
        rw [hx]
        exact ⟨hin _ (List.mem_of_getElem? he62), hin _ (List.mem_of_getElem? he65), hin _ (List.mem_of_getElem? he68), hb5⟩
    · intro hge
      have : n1.toNat - k = 0 := by omega
      rw [this, rp_end] at hq
      have hok2 := lenOk_sz (p := acc) (by omega)
      refine w_exit ?_
      refine x_then_exit ?_
      refine x_then_exit ?_
      refine x_block_exit ?_
      refine x_seq ?_
      refine w_seq ?_
      refine w_seq ?_
      refine w_region ?_
      refine t_bxn S.box ab_path sb_path rfl rfl ?_ rfl
      refine t_callx Try.call98 rfl (va1 (path_mkv (S.tail.sl)) fun cs h => impl_EncodablePath _ cs _ h (by omega) (by assumption) (by assumption)) ?_ rfl rfl
      intro w57 x58
      have B := bx Hb B x58
      have S := S.below x58
      refine t_notb rfl ?_ rfl
      refine t_done ?_
      refine x_seq ?_
      refine w_ifb rfl ?_ ?_
      · intro h4
        refine w_seq ?_
        refine w_region ?_
        refine t_build (fun w => b_path0 w) rfl ?_ rfl
        have S := S.f2
        refine t_stn S sb_path rfl rfl rfl rfl (by simp [Value.oneCell']) ?_
        intro w59 b60 S
        have B := B.trans b60
        refine t_assign rfl ?_ rfl
        refine t_assign rfl ?_ rfl
        refine t_done ?_
        refine x_seq ?_
        refine w_ret ?_
        refine x_then_ret ?_
        refine x_retctt rfl rfl S.box ab_path sb_path rfl rfl rfl ?_
        rw [show encPath acc = false by simpa using h4] at hq
        rw [← hq] at hr
        cases hr
        obtain ⟨fp, hO⟩ := ((S.addNil (T := partT) (e := 90)).pathShut (x := [])).head
        exact ⟨_, fp, rfl, pathT.mono _ _ _ _ _ _ X0.size hO, ext_trans X0 B⟩
      · intro h4
        refine w_skip ?_
        refine x_seq ?_
        refine w_seq ?_
        refine w_region ?_
        refine t_bxn S.box ab_path sb_path rfl rfl ?_ rfl
        refine t_move rfl ?_ rfl
        have S := S.f2
        refine t_stn S sb_path rfl rfl rfl rfl (by intro zz hu; have hu : zz ∈ ([u] : List Value) := hu; simp only [List.mem_cons, List.not_mem_nil, or_false] at hu; rcases hu with rfl <;> first | rfl | exact (SlR.cells (by first | assumption | exact S.tail.sl | exact S.tail.tail.sl | exact S.tail.tail.tail.sl | exact S.tail.tail.tail.tail.sl | exact S.tail.tail.tail.tail.tail.sl | exact S.tail.tail.tail.tail.tail.tail.sl | exact S.tail.tail.tail.tail.tail.tail.tail.sl | exact S.tail.tail.tail.tail.tail.tail.tail.tail.sl)).2) ?_
        intro w61 b62 S
        have B := B.trans b62
        refine t_assign rfl ?_ rfl
        refine t_assign rfl ?_ rfl
        refine t_done ?_
        refine x_seq ?_
        refine w_ret ?_
        refine x_retctt rfl rfl S.box ab_path sb_path rfl rfl rfl ?_
        rw [show encPath acc = true by simpa using h4] at hq
        rw [← hq] at hr
        have e0 : (p0, j0, ok0) = (acc, q, true) := by rw [← hr]; simp only [if_true, rp3]; congr 2; omega
        cases e0
        obtain ⟨fp, hO⟩ := (S.f2.pathShut).head
        exact ⟨_, fp, rfl, pathT.mono _ _ _ _ _ _ X0.size hO, ext_trans X0 B⟩
theorem pathInts_snoc (p : Path) (x : Part) : pathInts (p ++ [x]) = pathInts p ++ (piP x ++ x.hops.flatMap piH) := intsOf_snoc piP piH p x
theorem piP_of {h : List Int} {e0 e1 e2 e3 : Int} {hs : List Hop} (hl : h.length = 4) (h0 : h[0]? = some e0) (h1 : h[1]? = some e1) (h2 : h[2]? = some e2) (h3 : h[3]? = some e3) (hh : (hs.length : Int) = e3) : piP ⟨e0, e1, e2, hs⟩ = h := by
  obtain ⟨a, b, c, d, rfl⟩ : ∃ a b c d, h = [a, b, c, d] := by
    rcases h with _ | ⟨a, _ | ⟨b, _ | ⟨c, _ | ⟨d, _ | ⟨e, t⟩⟩⟩⟩⟩
    all_goals first | exact ⟨_, _, _, _, rfl⟩ | (simp at hl; done) | (simp at hl; omega)
  cases h0
  cases h1
  cases h2
  cases h3
  show [e0, e1, e2, (hs.length : Int)] = _
  rw [hh]
theorem rp_step {b : List UInt8} {n i j m : Nat} {acc : Path} {h l : List Int} (hd : decA b 4 i [] = some (h, j)) (h8 : ¬ 8 < gI h 3) (hd2 : decA b (5 * (gI h 3).toNat) j [] = some (l, m)) : rpK b (n + 1) i acc = rpK b n m (acc ++ [partOfI h l]) := by
  rw [rpK, hd]
  simp only [if_neg h8, hd2]
theorem rp_bad8 {b : List UInt8} {n i j : Nat} {acc : Path} {h : List Int} (hd : decA b 4 i [] = some (h, j)) (h8 : 8 < gI h 3) : rpK b (n + 1) i acc = none := by
  rw [rpK, hd]
  simp only [if_pos h8]
theorem rp_bad5 {b : List UInt8} {n i j : Nat} {acc : Path} {h : List Int} (hd : decA b 4 i [] = some (h, j)) (hd2 : decA b (5 * (gI h 3).toNat) j [] = none) : rpK b (n + 1) i acc = none := by
  rw [rpK, hd]
  by_cases h8 : 8 < gI h 3
  · simp only [if_pos h8]
  · simp only [if_neg h8, hd2]
theorem spec_ReadPath (b : List UInt8) (v : Value) (i : Int) {p0 : Path} {j0 : Int} {ok0 : Bool} (w : World) (h : SlR byteT w v b) (hz : b.length ≤ 1048576) (hi : i ≤ 9223372036854775807) (hr : rp3 (readP b i) = (p0, j0, ok0)) : Calls Try.prog 34 #[v, I i] w fun e w' => ∃ cs fp, e = .returned (.tuple #[.agg cs.toArray, I j0, .bool ok0]) ∧ pathT.O w.heap.size w' cs p0 fp ∧ Below w.heap.size w w' := by
  obtain ⟨n1, j1, ok1, hr1⟩ : ∃ n j ok, rv3 (readVI b i) = (n, j, ok) := ⟨_, _, _, rfl⟩
  have X0 := Below.refl w.heap.size w
  refine enter Try.func34 rfl Try.ntmps34 rfl ?_
  refine w_seq ?_
  refine w_region ?_
  have S := Sep.nil w
  have B := Below.refl w.heap.size w
  have Hb := Nat.le_refl w.heap.size
  refine t_alloc S z_path rfl ?_ rfl rfl
  intro g4 w63 x64 S
  have B := bx Hb B x64
  refine t_assign rfl ?_ rfl
  refine t_assign rfl ?_ rfl
  refine t_done ?_
  refine x_seq ?_
  refine w_seq ?_
  refine w_region ?_
  refine t_build (fun w => b_path0 w) rfl ?_ rfl
  refine t_alloc S z_path rfl ?_ rfl rfl
  intro g7 w65 x66 S
  have B := bx Hb B x66
  refine t_stn S sb_path rfl rfl rfl rfl (by simp [Value.oneCell']) ?_
  intro w67 b68 S
  have B := B.trans b68
  refine t_done ?_
  refine x_seq ?_
  refine w_seq ?_
  refine w_region ?_
  refine t_move rfl ?_ rfl
  refine t_move rfl ?_ rfl
  refine t_callx Try.call92 rfl (spec_ReadVarint _ _ _ _ (by first | assumption | exact SlR.below (by assumption) B) (by omega) (by omega) hr1) ?_ rfl rfl
  intro w69 x70
  have B := bx Hb B x70
  have S := S.below x70
  refine t_move rfl ?_ rfl
  refine t_extract rfl rfl ?_ rfl
  refine t_extract rfl rfl ?_ rfl
  refine t_extract rfl rfl ?_ rfl
  refine t_assign rfl ?_ rfl
  refine t_assign rfl ?_ rfl
  refine t_assign rfl ?_ rfl
  refine t_done ?_
  refine x_seq ?_
  refine w_seq ?_
  refine w_seq ?_
  refine w_region ?_
  refine t_move rfl ?_ rfl
  refine t_notb rfl ?_ rfl
  refine t_move rfl ?_ rfl
  refine t_part (t := 31) rfl ?_ ?_
  · intro hno
    refine t_off rfl rfl rfl ?_ rfl
    refine t_off rfl rfl rfl ?_ rfl
    refine t_pickt rfl rfl ?_ rfl
    refine t_done ?_
    refine x_seq ?_
    refine w_yes rfl ?_
    refine w_seq ?_
    refine w_region ?_
    refine t_bxn S.box ab_path sb_path rfl rfl ?_ rfl
    have S := S.f1
    refine t_stn S sb_path rfl rfl rfl rfl (by simp [Value.oneCell']) ?_
    intro w71 b72 S
    have B := B.trans b72
    refine t_assign rfl ?_ rfl
    refine t_assign rfl ?_ rfl
    refine t_done ?_
    refine x_seq ?_
    refine w_ret ?_
    refine x_then_ret ?_
    refine x_retctt rfl rfl S.box ab_path sb_path rfl rfl rfl ?_
    rw [readP_no (rv_no hr1 hno)] at hr
    cases hr
    obtain ⟨fp, hO⟩ := ((S.addNil (T := partT) (e := 90)).pathShut (x := [])).head
    exact ⟨_, fp, rfl, pathT.mono _ _ _ _ _ _ X0.size hO, ext_trans X0 B⟩
  intro hyes
  obtain ⟨hy1, hy2, hy3, hy4, hy5, hy6⟩ := rv_yes hr1 hyes
  refine t_on rfl rfl ?_
  refine t_move rfl ?_ rfl
  refine t_on rfl rfl ?_
  refine t_gtr rfl rfl ?_ rfl
  refine t_pickf rfl rfl ?_ rfl
  refine t_done ?_
  refine x_seq ?_
  refine w_if rfl ?_ ?_
  · intro hbig
    refine w_seq ?_
    refine w_region ?_
    refine t_bxn S.box ab_path sb_path rfl rfl ?_ rfl
    have S := S.f1
    refine t_stn S sb_path rfl rfl rfl rfl (by simp [Value.oneCell']) ?_
    intro w73 b74 S
    have B := B.trans b74
    refine t_assign rfl ?_ rfl
    refine t_assign rfl ?_ rfl
    refine t_done ?_
    refine x_seq ?_
    refine w_ret ?_
    refine x_then_ret ?_
    refine x_retctt rfl rfl S.box ab_path sb_path rfl rfl rfl ?_
    rw [readP_big hy1 (by omega)] at hr
    cases hr
    obtain ⟨fp, hO⟩ := ((S.addNil (T := partT) (e := 90)).pathShut (x := [])).head
    exact ⟨_, fp, rfl, pathT.mono _ _ _ _ _ _ X0.size hO, ext_trans X0 B⟩
  intro hbig
  rw [readP_eq hy1 (by omega)] at hr
  refine w_skip ?_
  refine x_seq ?_
  refine w_seq ?_
  refine w_region ?_
  refine t_lit (T := intT) (css := []) (l := []) int_flat S bs_int0 rfl rfl rfl rfl (Nat.zero_le _) litR_nil ?_ rfl rfl
  intro u36 w75 x76 S
  have B := bx Hb B x76
  refine t_assign rfl ?_ rfl
  refine t_done ?_
  refine x_seq ?_
  refine w_seq ?_
  refine w_seq ?_
  refine w_region ?_
  refine t_assign rfl ?_ rfl
  refine t_done ?_
  refine x_seq ?_
  refine w_block ?_
  refine w_loop (X := Nat × Int × Path × Value) (fun x wq => (fun k q acc u => k ≤ n1.toNat ∧ (0 : Int) ≤ q ∧ q ≤ b.length ∧ (pathInts acc).length ≤ 44 * k ∧ (∀ x ∈ acc, x.hops.length ≤ 8) ∧ (∀ x ∈ pathInts acc, In64 x) ∧ rpK b (n1.toNat - k) q.toNat acc = rpK b n1.toNat j1.toNat [] ∧ Below w.heap.size w wq ∧ Sep w.heap.size wq [slO intT 3 u (pathInts acc), bxO g7 39 #[.slice none 0 0], bxO g4 39 #[.slice none 0 0]]) x.1 x.2.1 x.2.2.1 x.2.2.2) (fun x => (fun k q acc u => [(12, I ((k : Int))), (9, I q), (11, u), (0, v), (4, .pointer (some ⟨g4, 0, none⟩)), (7, .pointer (some ⟨g7, 0, none⟩)), (8, I n1)]) x.1 x.2.1 x.2.2.1 x.2.2.2) (fun x => (fun k q acc u => n1.toNat - k) x.1 x.2.1 x.2.2.1 x.2.2.2) (0, j1, [], u36) ?_ ⟨rfl, rfl, rfl, rfl, rfl, rfl, rfl, trivial⟩ ?_
  · exact ⟨by omega, (by show (0 : Int) ≤ j1; omega), hy5, Nat.le_refl _, (fun x hx => by cases hx), (fun x hx => by cases hx), rfl, B, S⟩
  · rintro ⟨k, q, acc, u⟩ w77 hI
    try dsimp only at hI ⊢
    obtain ⟨hk, hq0, hq1, hal, hh8, hin, hq, B, S⟩ := hI
    refine w_seq ?_
    refine w_seq ?_
    refine w_region ?_
    refine t_move rfl ?_ rfl
    refine t_move rfl ?_ rfl
    refine t_lss rfl rfl ?_ rfl
    refine t_done ?_
    refine x_seq ?_
    refine w_if rfl ?_ ?_
    · intro hlt
      have hf : n1.toNat - k = (n1.toNat - (k + 1)) + 1 := by omega
      rw [hf] at hq
      obtain ⟨l2, j2, ok2, hr2⟩ : ∃ l j ok, dec3 (decI b q 4) = (l, j, ok) := ⟨_, _, _, rfl⟩
      have hd4 : decI b q 4 = decA b 4 q.toNat [] := decI_at hq0 hq1 (by omega) (by omega)
      refine w_skip ?_
      refine x_seq ?_
      refine w_seq ?_
      refine w_block ?_
      refine w_seq ?_
      refine w_region ?_
      refine t_move rfl ?_ rfl
      refine t_move rfl ?_ rfl
      refine t_call Try.call93 rfl (spec_DecodeInts _ _ _ _ _ (by first | assumption | exact SlR.below (by assumption) B) (by omega) hr2) ?_ rfl rfl
      rintro e w78 ⟨v45, fpv45, rfl, hOv45, x79⟩
      refine ⟨_, rfl, x79, ?_⟩
      have S := S.add (o := slO _ _ _ _) x79 hOv45
      have B := bx Hb B x79
      refine t_move rfl ?_ rfl
      refine t_extract rfl rfl ?_ rfl
      refine t_extract rfl rfl ?_ rfl
      refine t_extract rfl rfl ?_ rfl
      refine t_assign rfl ?_ rfl
      refine t_assign rfl ?_ rfl
      refine t_assign rfl ?_ rfl
      refine t_done ?_
      refine x_seq ?_
      refine w_seq ?_
      refine w_seq ?_
      refine w_region ?_
      refine t_move rfl ?_ rfl
      refine t_notb rfl ?_ rfl
      refine t_move rfl ?_ rfl
      refine t_part (t := 51) rfl ?_ ?_
      · intro hno
        refine t_off rfl rfl rfl ?_ rfl
        refine t_off rfl rfl rfl ?_ rfl
        refine t_off rfl rfl rfl ?_ rfl
        refine t_off rfl rfl rfl ?_ rfl
        refine t_pickt rfl rfl ?_ rfl
        refine t_done ?_
        refine x_seq ?_
        refine w_yes rfl ?_
        refine w_seq ?_
        refine w_region ?_
        refine t_bxn S.tail.tail.box ab_path sb_path rfl rfl ?_ rfl
        have S := S.f3
        refine t_stn S sb_path rfl rfl rfl rfl (by simp [Value.oneCell']) ?_
        intro w80 b81 S
        have B := B.trans b81
        refine t_assign rfl ?_ rfl
        refine t_assign rfl ?_ rfl
        refine t_done ?_
        refine x_seq ?_
        refine w_ret ?_
        refine x_then_ret ?_
        refine x_block_ret ?_
        refine x_then_ret ?_
        refine x_then_ret ?_
        refine x_block_ret ?_
        refine x_then_ret ?_
        refine x_retctt rfl rfl S.box ab_path sb_path rfl rfl rfl ?_
        have hdn := dec_no hr2 hno
        rw [hd4] at hdn
        rw [rp_none hdn] at hq
        rw [← hq] at hr
        cases hr
        obtain ⟨fp, hO⟩ := ((S.addNil (T := partT) (e := 90)).pathShut (x := [])).head
        exact ⟨_, fp, rfl, pathT.mono _ _ _ _ _ _ X0.size hO, ext_trans X0 B⟩
      intro hyes2
      obtain ⟨ha1, ha2, ha3, ha4, ha5, ha6⟩ := dec_yes hr2 hyes2
      rw [hd4] at ha1
      have hl4 : l2.length = 4 := by simpa using ha2
      have hin2 : ∀ x ∈ l2, In64 x := fun x hx => by
        have := ha3 x hx
        unfold In64; omega
      obtain ⟨e53, he53⟩ : ∃ e, l2[3]? = some e := getx (by omega)
      have hg3 := gI_eq he53
      have h53 := ha3 e53 (List.mem_of_getElem? he53)
      refine t_on rfl rfl ?_
      refine t_move rfl ?_ rfl
      refine t_on rfl rfl ?_
      refine t_idx e_int (k := 3) (S.sl) he53 (Below.refl _ _) rfl rfl (by first | rfl | omega) ?_ rfl
      intro p53 hp53
      refine t_on rfl rfl ?_
      refine t_ldi (by assumption) ab_int (Below.refl _ _) rfl ?_ rfl
      refine t_on rfl rfl ?_
      refine t_gtr rfl rfl ?_ rfl
      refine t_pickf rfl rfl ?_ rfl
      refine t_done ?_
      refine x_seq ?_
      refine w_if rfl ?_ ?_
      · intro hbig8
        refine w_seq ?_
        refine w_region ?_
        refine t_bxn S.tail.tail.box ab_path sb_path rfl rfl ?_ rfl
        have S := S.f3
        refine t_stn S sb_path rfl rfl rfl rfl (by simp [Value.oneCell']) ?_
        intro w82 b83 S
        have B := B.trans b83
        refine t_assign rfl ?_ rfl
        refine t_assign rfl ?_ rfl
        refine t_done ?_
        refine x_seq ?_
        refine w_ret ?_
        refine x_then_ret ?_
        refine x_block_ret ?_
        refine x_then_ret ?_
        refine x_then_ret ?_
        refine x_block_ret ?_
        refine x_then_ret ?_
        refine x_retctt rfl rfl S.box ab_path sb_path rfl rfl rfl ?_
        rw [rp_bad8 ha1 (by rw [hg3]; exact hbig8)] at hq
        rw [← hq] at hr
        cases hr
        obtain ⟨fp, hO⟩ := ((S.addNil (T := partT) (e := 90)).pathShut (x := [])).head
        exact ⟨_, fp, rfl, pathT.mono _ _ _ _ _ _ X0.size hO, ext_trans X0 B⟩
      intro hbig8
      obtain ⟨l3, j3, ok3, hr3⟩ : ∃ l j ok, dec3 (decI b j2 (5 * e53)) = (l, j, ok) := ⟨_, _, _, rfl⟩
      have hd5 : decI b j2 (5 * e53) = decA b (5 * e53.toNat) j2.toNat [] := by
        rw [decI_at ha6 ha5 (by omega) (by omega), show (5 * e53).toNat = 5 * e53.toNat by omega]
      refine w_skip ?_
      refine x_seq ?_
      refine w_seq ?_
      refine w_region ?_
      refine t_move rfl ?_ rfl
      refine t_move rfl ?_ rfl
      refine t_move rfl ?_ rfl
      refine t_idx e_int (k := 3) (S.sl) he53 (Below.refl _ _) rfl rfl (by first | rfl | omega) ?_ rfl
      intro p62 hp62
      refine t_ldi (by assumption) ab_int (Below.refl _ _) rfl ?_ rfl
      refine t_mul rfl rfl (by omega) ?_ rfl
      refine t_call Try.call93 rfl (spec_DecodeInts _ _ _ _ _ (by first | assumption | exact SlR.below (by assumption) B) (by omega) hr3) ?_ rfl rfl
      rintro e w84 ⟨v65, fpv65, rfl, hOv65, x85⟩
      refine ⟨_, rfl, x85, ?_⟩
      have S := S.add (o := slO _ _ _ _) x85 hOv65
      have B := bx Hb B x85
      refine t_move rfl ?_ rfl
      refine t_extract rfl rfl ?_ rfl
      refine t_extract rfl rfl ?_ rfl
      refine t_extract rfl rfl ?_ rfl
      refine t_assign rfl ?_ rfl
      refine t_assign rfl ?_ rfl
      refine t_assign rfl ?_ rfl
      refine t_done ?_
      refine x_seq ?_
      refine w_seq ?_
      refine w_seq ?_
      refine w_region ?_
      refine t_move rfl ?_ rfl
      refine t_notb rfl ?_ rfl
      refine t_done ?_
      refine x_seq ?_
      refine w_ifb rfl ?_ ?_
      · intro hno
        refine w_seq ?_
        refine w_region ?_
        refine t_bxn S.tail.tail.tail.box ab_path sb_path rfl rfl ?_ rfl
        have S := S.f4
        refine t_stn S sb_path rfl rfl rfl rfl (by simp [Value.oneCell']) ?_
        intro w86 b87 S
        have B := B.trans b87
        refine t_assign rfl ?_ rfl
        refine t_assign rfl ?_ rfl
        refine t_done ?_
        refine x_seq ?_
        refine w_ret ?_
        refine x_then_ret ?_
        refine x_block_ret ?_
        refine x_then_ret ?_
        refine x_then_ret ?_
        refine x_block_ret ?_
        refine x_then_ret ?_
        refine x_retctt rfl rfl S.box ab_path sb_path rfl rfl rfl ?_
        have hdn := dec_no hr3 hno
        rw [hd5] at hdn
        rw [rp_bad5 ha1 (by rw [hg3]; exact hdn)] at hq
        rw [← hq] at hr
        cases hr
        obtain ⟨fp, hO⟩ := ((S.addNil (T := partT) (e := 90)).pathShut (x := [])).head
        exact ⟨_, fp, rfl, pathT.mono _ _ _ _ _ _ X0.size hO, ext_trans X0 B⟩
      intro hyes3
      obtain ⟨hb1, hb2, hb3, hb4, hb5, hb6⟩ := dec_yes hr3 hyes3
      rw [hd5] at hb1
      have hst := rp_step (n := n1.toNat - (k + 1)) (acc := acc) ha1 (by rw [hg3]; exact hbig8) (by rw [hg3]; exact hb1)
      rw [hq] at hst
      have hl3 : l3.length = 5 * e53.toNat := by rw [hb2]; omega
      obtain ⟨e0, he0⟩ : ∃ e, l2[0]? = some e := getx (by omega)
      obtain ⟨e1, he1⟩ : ∃ e, l2[1]? = some e := getx (by omega)
      obtain ⟨e2, he2⟩ : ∃ e, l2[2]? = some e := getx (by omega)
      have hhl := hopsAt_len l3 0 e53.toNat
      have hpo : partOfI l2 l3 = ⟨e0, e1, e2, hopsAt l3 0 e53.toNat⟩ := by
        unfold partOfI; rw [gI_eq he0, gI_eq he1, gI_eq he2, hg3]
      have hpi : pathInts (acc ++ [partOfI l2 l3]) = (pathInts acc ++ l2) ++ l3 := by
        rw [pathInts_snoc, hpo, piP_of hl4 he0 he1 he2 he53 (by rw [hhl]; omega)]
        show pathInts acc ++ (l2 ++ (hopsAt l3 0 e53.toNat).flatMap piH) = _
        rw [hopsAt_ints l3 _ hl3, List.append_assoc]
      refine w_skip ?_
      refine x_seq ?_
      refine w_seq ?_
      refine w_region ?_
      refine t_move rfl ?_ rfl
      refine t_move rfl ?_ rfl
      have hR := S.tail.sl
      have S := S.f2
      refine t_cat int_flat e_int S hR rfl rfl rfl (by first | omega | (simp [-List.length_flatMap]; omega)) (by (simp [maxLen, -List.length_flatMap]; try omega)) ?_ rfl
      intro v74 w88 x89 S
      have B := B.trans x89
      clear hR
      refine t_move rfl ?_ rfl
      have hR := S.tail.sl
      refine t_cat int_flat e_int S hR rfl rfl rfl (by first | omega | (simp [-List.length_flatMap]; omega)) (by (simp [maxLen, -List.length_flatMap]; try omega)) ?_ rfl
      intro v76 w90 x91 S
      have B := B.trans x91
      clear hR
      refine t_assign rfl ?_ rfl
      refine t_done ?_
      refine x_seq ?_
      refine w_region ?_
      refine t_move rfl ?_ rfl
      refine t_assign rfl ?_ rfl
      refine t_done ?_
      refine x_block_normal ?_
      refine x_seq ?_
      refine w_region ?_
      refine t_move rfl ?_ rfl
      refine t_add rfl rfl (by omega) ?_ rfl
      refine t_assign rfl ?_ rfl
      refine t_done ?_
      have S := S.f1
      have S := S.tail
      have S := S.f1
      have S := S.tail
      refine x_round (I := (fun x wq => (fun k q acc u => k ≤ n1.toNat ∧ (0 : Int) ≤ q ∧ q ≤ b.length ∧ (pathInts acc).length ≤ 44 * k ∧ (∀ x ∈ acc, x.hops.length ≤ 8) ∧ (∀ x ∈ pathInts acc, In64 x) ∧ rpK b (n1.toNat - k) q.toNat acc = rpK b n1.toNat j1.toNat [] ∧ Below w.heap.size w wq ∧ Sep w.heap.size wq [slO intT 3 u (pathInts acc), bxO g7 39 #[.slice none 0 0], bxO g4 39 #[.slice none 0 0]]) x.1 x.2.1 x.2.2.1 x.2.2.2)) (F := (fun x => (fun k q acc u => [(12, I ((k : Int))), (9, I q), (11, u), (0, v), (4, .pointer (some ⟨g4, 0, none⟩)), (7, .pointer (some ⟨g7, 0, none⟩)), (8, I n1)]) x.1 x.2.1 x.2.2.1 x.2.2.2)) (μ := (fun x => (fun k q acc u => n1.toNat - k) x.1 x.2.1 x.2.2.1 x.2.2.2)) (k + 1, j3, acc ++ [partOfI l2 l3], v76) ?_ (by exact ⟨rfl, rfl, rfl, rfl, rfl, rfl, rfl, trivial⟩) (by (try dsimp only); omega)
      try dsimp only
      refine ⟨by omega, hb6, hb5, by rw [hpi]; simp only [List.length_append]; omega, ?_, ?_, hst.symm, B, by rw [hpi]; exact S⟩
      · intro x hx
        rcases List.mem_append.1 hx with hx | hx
        · exact hh8 x hx
        · rw [List.mem_singleton] at hx
          rw [hx, hpo]
          show (hopsAt l3 0 e53.toNat).length ≤ 8
          omega
      · intro x hx
        rw [hpi] at hx
        rcases List.mem_append.1 hx with hx | hx
        · rcases List.mem_append.1 hx with hx | hx
          · exact hin x hx
          · exact hin2 x hx
        · have := hb3 x hx
          unfold In64; omega
    · intro hge
      have : n1.toNat - k = 0 := by omega
      rw [this, rp_end] at hq
      have hpo := pathOf_ints hh8
      obtain ⟨q1, ok3, hpq⟩ : ∃ q1 ok3, pathOf (pathInts acc) = (q1, ok3) := ⟨_, _, rfl⟩
      refine w_exit ?_
      refine x_then_exit ?_
      refine x_then_exit ?_
      refine x_block_exit ?_
      refine x_seq ?_
      refine w_seq ?_
      refine w_region ?_
      refine t_move rfl ?_ rfl
      refine t_call Try.call94 rfl (spec_PathFromInts _ _ _ (S.sl) (by omega) (by assumption)) ?_ rfl rfl
      rintro e w92 ⟨cs80, fp80, rfl, hO80, x93⟩
      refine ⟨_, rfl, x93, ?_⟩
      have S := S.add (o := tyO pathT _ _) x93 hO80
      have B := bx Hb B x93
      obtain ⟨u80_0, heq, S2⟩ := S.pathOpen
      subst heq
      have S := S2
      clear S2
      refine t_move rfl ?_ rfl
      refine t_extract rfl rfl ?_ rfl
      refine t_extract rfl rfl ?_ rfl
      refine t_alloc S z_path rfl ?_ rfl rfl
      intro g19 w94 x95 S
      have B := bx Hb B x95
      refine t_stn S sb_path rfl rfl rfl rfl (by intro zz hu; have hu : zz ∈ ([u80_0] : List Value) := hu; simp only [List.mem_cons, List.not_mem_nil, or_false] at hu; rcases hu with rfl <;> first | rfl | exact (SlR.cells (by first | assumption | exact S.tail.sl | exact S.tail.tail.sl | exact S.tail.tail.tail.sl | exact S.tail.tail.tail.tail.sl | exact S.tail.tail.tail.tail.tail.sl | exact S.tail.tail.tail.tail.tail.tail.sl | exact S.tail.tail.tail.tail.tail.tail.tail.sl | exact S.tail.tail.tail.tail.tail.tail.tail.tail.sl)).2) ?_
      intro w96 b97 S
      have B := B.trans b97
      refine t_assign rfl ?_ rfl
      refine t_done ?_
      refine x_seq ?_
      refine w_seq ?_
      refine w_seq ?_
      refine w_region ?_
      refine t_move rfl ?_ rfl
      refine t_notb rfl ?_ rfl
      refine t_done ?_
      refine x_seq ?_
      refine w_ifb rfl ?_ ?_
      · intro h4
        refine w_seq ?_
        refine w_region ?_
        refine t_bxn S.tail.tail.tail.box ab_path sb_path rfl rfl ?_ rfl
        have S := S.f4
        refine t_stn S sb_path rfl rfl rfl rfl (by simp [Value.oneCell']) ?_
        intro w98 b99 S
        have B := B.trans b99
        refine t_assign rfl ?_ rfl
        refine t_assign rfl ?_ rfl
        refine t_done ?_
        refine x_seq ?_
        refine w_ret ?_
        refine x_then_ret ?_
        refine x_retctt rfl rfl S.box ab_path sb_path rfl rfl rfl ?_
        have h5 : encPath acc = false := by
          cases he : encPath acc with
          | false => rfl
          | true => rw [hpo, he] at h4; exact absurd h4 (by simp)
        rw [h5] at hq
        rw [← hq] at hr
        cases hr
        obtain ⟨fp, hO⟩ := ((S.addNil (T := partT) (e := 90)).pathShut (x := [])).head
        exact ⟨_, fp, rfl, pathT.mono _ _ _ _ _ _ X0.size hO, ext_trans X0 B⟩
      · intro h4
        have h5 : encPath acc = true := by
          cases he : encPath acc with
          | true => rfl
          | false => rw [hpo, he] at h4; exact absurd h4 (by simp)
        refine w_skip ?_
        refine x_seq ?_
        refine w_seq ?_
        refine w_region ?_
        refine t_bxn S.box ab_path sb_path rfl rfl ?_ rfl
        refine t_move rfl ?_ rfl
        have S := S.f4
        refine t_stn S sb_path rfl rfl rfl rfl (by intro zz hu; have hu : zz ∈ ([u80_0] : List Value) := hu; simp only [List.mem_cons, List.not_mem_nil, or_false] at hu; rcases hu with rfl <;> first | rfl | exact (SlR.cells (by first | assumption | exact S.tail.sl | exact S.tail.tail.sl | exact S.tail.tail.tail.sl | exact S.tail.tail.tail.tail.sl | exact S.tail.tail.tail.tail.tail.sl | exact S.tail.tail.tail.tail.tail.tail.sl | exact S.tail.tail.tail.tail.tail.tail.tail.sl | exact S.tail.tail.tail.tail.tail.tail.tail.tail.sl)).2) ?_
        intro w100 b101 S
        have B := B.trans b101
        refine t_assign rfl ?_ rfl
        refine t_assign rfl ?_ rfl
        refine t_done ?_
        refine x_seq ?_
        refine w_ret ?_
        refine x_retctt rfl rfl S.box ab_path sb_path rfl rfl rfl ?_
        have S := S.f2
        have S := S.pathShut (x := (pathOf (pathInts acc)).1)
        obtain ⟨fp, hO⟩ := (S.mono X0.size).head
        rw [h5] at hq
        rw [← hq] at hr
        have e0 : (p0, j0, ok0) = (acc, q, true) := by rw [← hr]; simp only [if_true, rp3]; congr 2; omega
        cases e0
        rw [show (pathOf (pathInts p0)).1 = p0 by rw [hpo, h5]; rfl] at hO
        exact ⟨_, fp, rfl, hO, ext_trans X0 B⟩
end Go.Proofs.Ytfgobdejlfojiaa
