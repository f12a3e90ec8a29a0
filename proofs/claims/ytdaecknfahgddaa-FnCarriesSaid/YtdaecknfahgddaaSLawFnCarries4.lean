/- What LawFnCarries needs of the texts below it, part 4: contracts of functions, plain lemmas. (Put together by slim.py.) -/
import Derived.Test.YtdaecknfahgddaaSLawFnCarries3
namespace Go.Proofs.Ytdaecknfahgddaa
open Go.RowKit
set_option linter.unusedVariables false
set_option maxRecDepth 20000
theorem b_seg2 (a b : Int) (w : World) : (Instr.build 107 #[(0, I a), (1, I b)]).run Try.prog w = .ok (.agg #[I a, I b, .slice none 0 0]) w := by kernel_rfl
theorem b_hop4 (a b c d : Int) (w : World) : (Instr.build 74 #[(0, I a), (1, I b), (2, I c), (3, I d)]).run Try.prog w = .ok (.agg #[I a, I b, I c, I d, I 0]) w := by kernel_rfl
def authHop (key ts beta : Int) (h : Hop) : Hop := { h with mac := hopMac key ts beta h }
theorem spec_AuthenticateHop (key ts beta : Int) (x : Hop) (w : World) : Calls Try.prog 124 #[I key, I ts, I beta, .agg #[I x.ia, I x.ing, I x.eg, I x.exp, I x.mac]] w fun e w' => e = .returned (.agg #[I (authHop key ts beta x).ia, I (authHop key ts beta x).ing, I (authHop key ts beta x).eg, I (authHop key ts beta x).exp, I (authHop key ts beta x).mac]) ∧ Below w.heap.size w w' := by
  have X0 := Below.refl w.heap.size w
  refine enter Try.func124 rfl Try.ntmps124 rfl ?_
  have S := Sep.nil w
  have B := Below.refl w.heap.size w
  have Hb := Nat.le_refl w.heap.size
  refine w_seq ?_
  refine w_region ?_
  refine t_boxo S rfl rfl ?_ rfl rfl
  intro g7 w1 x2 S
  have B := bx Hb B x2
  refine t_alloc S z_hop rfl ?_ rfl rfl
  intro g8 w3 x4 S
  have B := bx Hb B x4
  refine t_done ?_
  refine x_seq ?_
  refine w_seq ?_
  refine w_region ?_
  refine t_bxn S.tail.box ab_hop sb_hop rfl rfl ?_ rfl
  refine t_alloc S z_hop rfl ?_ rfl rfl
  intro g9 w5 x6 S
  have B := bx Hb B x6
  refine t_stn S sb_hop rfl rfl rfl rfl (by intro zz hu; have hu : zz ∈ ([I x.ia, I x.ing, I x.eg, I x.exp, I x.mac] : List Value) := hu; simp only [List.mem_cons, List.not_mem_nil, or_false] at hu; rcases hu with rfl | rfl | rfl | rfl | rfl <;> rfl) ?_
  intro w7 b8 S
  have B := B.trans b8
  refine t_done ?_
  refine x_seq ?_
  refine w_seq ?_
  refine w_region ?_
  refine t_move rfl ?_ rfl
  refine t_move rfl ?_ rfl
  refine t_move rfl ?_ rfl
  refine t_bxn S.tail.tail.box ab_hop sb_hop rfl rfl ?_ rfl
  refine t_callx Try.call133 rfl (spec_HopMAC _ _ _ _ _) ?_ rfl rfl
  intro w9 x10
  have B := bx Hb B x10
  have S := S.below x10
  refine t_fldx fb_hop_4 rfl rfl ?_ rfl
  refine t_st1 S sb_int rfl rfl rfl rfl rfl ?_
  intro w11 b12 S
  have B := B.trans b12
  refine t_done ?_
  refine x_seq ?_
  refine w_seq ?_
  refine w_region ?_
  refine t_bxn S.box ab_hop sb_hop rfl rfl ?_ rfl
  have S := S.f1
  refine t_stn S sb_hop rfl rfl rfl rfl (by intro zz hu; have hu : zz ∈ ([I x.ia, I x.ing, I x.eg, I x.exp, I (hopMac key ts beta x)] : List Value) := hu; simp only [List.mem_cons, List.not_mem_nil, or_false] at hu; rcases hu with rfl | rfl | rfl | rfl | rfl <;> rfl) ?_
  intro w13 b14 S
  have B := B.trans b14
  refine t_done ?_
  refine x_seq ?_
  refine w_ret ?_
  refine x_retc rfl rfl S.box ab_hop sb_hop rfl ?_
  exact ⟨rfl, ext_trans X0 B⟩
set_option maxHeartbeats 8000000 in
theorem spec_l9Grow {b n c : Nat} {w : World} {v va vl : Value} {A : List ASd} {L : List Lnk} {os : List Ow} (kd : Int) (T : TopK A L) (S : Sep b w (curO v n c 109 :: slO asnT 121 va A :: slO linkT 78 vl L :: os)) (K : CodeK b w v n) : Calls Try.prog 95 #[.pointer (some ⟨c, 0, none⟩), .agg #[va, vl], I kd] w fun e w' =>
    ∃ (vh : Value) (s : Seg), e = .returned (.agg #[I s.ts, I s.beta, vh]) ∧ SegK ⟨A, L⟩ s ∧ Sep b w' (slO hopT 74 vh s.hops :: curO v n c 109 :: slO asnT 121 va A :: slO linkT 78 vl L :: os) ∧ Below b w w' := by
  have hA1 := T.1.1
  have hA8 := T.1.2.1
  have hL := T.len
  have hK := T.lnk
  have hst : sz_topo (⟨A, L⟩ : Topo) ≤ 500000 := by simp only [sz_topo]; omega
  have X0 := Below.refl w.heap.size w
  refine enter Try.func95 rfl Try.ntmps95 rfl ?_
  have B := Below.refl b w
  have Hb := S.base
  refine w_seq ?_
  refine w_region ?_
  refine t_boxo S rfl rfl ?_ rfl rfl
  intro g4 w15 x16 S
  have B := bx Hb B x16
  refine t_alloc S z_seg rfl ?_ rfl rfl
  intro g6 w17 x18 S
  have B := bx Hb B x18
  refine t_done ?_
  refine x_seq ?_
  refine w_seq ?_
  refine w_region ?_
  refine t_lit (T := intT) (css := []) (l := []) int_flat S bs_int0 rfl rfl rfl rfl (Nat.zero_le _) litR_nil ?_ rfl rfl
  intro u18 w19 x20 S
  have B := bx Hb B x20
  refine t_assign rfl ?_ rfl
  refine t_done ?_
  refine x_seq ?_
  refine w_seq ?_
  refine w_seq ?_
  refine w_region ?_
  refine t_assign rfl ?_ rfl
  refine t_done ?_
  refine x_seq ?_
  refine w_block ?_
  refine w_loop (X := Nat × List Int × Value) (fun x wq => (fun k q vq => k ≤ A.length ∧ (∀ x : Int, x ∈ q → 0 ≤ x ∧ x < A.length) ∧ q.length ≤ k ∧ Below b w wq ∧ Sep b wq (slO intT 3 vq q :: bxO g6 107 #[I 0, I 0, .slice none 0 0] :: bxO g4 27 #[va, vl] :: curO v n c 109 :: slO asnT 121 va A :: slO linkT 78 vl L :: os)) x.1 x.2.1 x.2.2) (fun x => (fun k q vq => [(8, I ((k : Int))), (7, vq), (0, .pointer (some ⟨c, 0, none⟩)), (2, I kd), (4, .pointer (some ⟨g4, 0, none⟩)), (6, .pointer (some ⟨g6, 0, none⟩))]) x.1 x.2.1 x.2.2) (fun x => (fun k q vq => A.length - k) x.1 x.2.1 x.2.2) (0, [], _) ?_ ⟨rfl, rfl, rfl, rfl, rfl, rfl, trivial⟩ ?_
  · exact ⟨by omega, by simp, by simp, B, S⟩
  rintro ⟨k, q, vq⟩ w21 hI
  try dsimp only at hI ⊢
  obtain ⟨hk, hq, hql, B, S⟩ := hI
  refine w_seq ?_
  refine w_seq ?_
  refine w_region ?_
  refine t_move rfl ?_ rfl
  refine t_fldx fb_topo_0 rfl rfl ?_ rfl
  refine t_bx1 S.tail.tail.box ab_s_asn rfl rfl ?_ rfl
  refine t_len e_asn (S.tail.tail.tail.tail.sl) rfl rfl ?_ rfl
  refine t_lss rfl rfl ?_ rfl
  refine t_done ?_
  refine x_seq ?_
  refine w_if rfl ?_ ?_
  · intro hlt
    refine w_skip ?_
    refine x_seq ?_
    refine w_seq ?_
    refine w_block ?_
    refine w_seq ?_
    refine w_region ?_
    refine t_fldx fb_topo_0 rfl rfl ?_ rfl
    refine t_bx1 S.tail.tail.box ab_s_asn rfl rfl ?_ rfl
    refine t_move rfl ?_ rfl
    obtain ⟨e29, he29⟩ : ∃ e, (A)[k]? = some e := getx (by omega)
    refine t_idx e_asn (k := k) (S.tail.tail.tail.tail.sl) he29 (Below.refl _ _) rfl rfl (by first | rfl | omega) ?_ rfl
    intro p29 hp29
    refine t_fld ln_asn_1 (by assumption) fb_asn_1 rfl ?_ rfl
    intro p30 hp30
    refine t_ldb (by assumption) ab_bool (Below.refl _ _) rfl ?_ rfl
    refine t_done ?_
    refine x_seq ?_
    refine w_ifb rfl ?_ ?_
    · intro hc
      refine w_region ?_
      refine t_move rfl ?_ rfl
      refine t_move rfl ?_ rfl
      refine t_lit (T := intT) (l := [(k : Int)]) (css := ([(k : Int)]).map fun a => [I a]) int_flat S (fun w => bs_int1 _ w) rfl rfl rfl rfl (by simp [maxLen]) (litR_int _) ?_ rfl rfl
      intro u34 w22 x23 S
      have B := bx Hb B x23
      have hR := S.sl
      have S := S.f1
      refine t_cat int_flat e_int S hR rfl rfl rfl (by first | omega | (simp [-List.length_flatMap]; omega)) (by (simp [maxLen, -List.length_flatMap]; try omega)) ?_ rfl
      intro v35 w24 x25 S
      have B := B.trans x25
      clear hR
      have S := S.f1
      have S := S.tail
      refine t_assign rfl ?_ rfl
      refine t_done ?_
      refine x_block_normal ?_
      refine x_seq ?_
      refine w_region ?_
      refine t_move rfl ?_ rfl
      refine t_add rfl rfl (by omega) ?_ rfl
      refine t_assign rfl ?_ rfl
      refine t_done ?_
      refine x_round (X := Nat × List Int × Value) (I := (fun x wq => (fun k q vq => k ≤ A.length ∧ (∀ x : Int, x ∈ q → 0 ≤ x ∧ x < A.length) ∧ q.length ≤ k ∧ Below b w wq ∧ Sep b wq (slO intT 3 vq q :: bxO g6 107 #[I 0, I 0, .slice none 0 0] :: bxO g4 27 #[va, vl] :: curO v n c 109 :: slO asnT 121 va A :: slO linkT 78 vl L :: os)) x.1 x.2.1 x.2.2)) (F := (fun x => (fun k q vq => [(8, I ((k : Int))), (7, vq), (0, .pointer (some ⟨c, 0, none⟩)), (2, I kd), (4, .pointer (some ⟨g4, 0, none⟩)), (6, .pointer (some ⟨g6, 0, none⟩))]) x.1 x.2.1 x.2.2)) (μ := (fun x => (fun k q vq => A.length - k) x.1 x.2.1 x.2.2)) (k + 1, q ++ [(k : Int)], v35) ?_ (by exact ⟨rfl, rfl, rfl, rfl, rfl, rfl, trivial⟩) (by (try dsimp only); omega)
      try dsimp only
      refine ⟨by omega, fun x hx => ?_, by rw [List.length_append, List.length_singleton]; omega, B, S⟩
      rw [List.mem_append, List.mem_singleton] at hx
      rcases hx with hx | rfl
      · exact hq x hx
      · omega
    · intro hc
      refine w_skip ?_
      refine x_block_normal ?_
      refine x_seq ?_
      refine w_region ?_
      refine t_move rfl ?_ rfl
      refine t_add rfl rfl (by omega) ?_ rfl
      refine t_assign rfl ?_ rfl
      refine t_done ?_
      refine x_round (X := Nat × List Int × Value) (I := (fun x wq => (fun k q vq => k ≤ A.length ∧ (∀ x : Int, x ∈ q → 0 ≤ x ∧ x < A.length) ∧ q.length ≤ k ∧ Below b w wq ∧ Sep b wq (slO intT 3 vq q :: bxO g6 107 #[I 0, I 0, .slice none 0 0] :: bxO g4 27 #[va, vl] :: curO v n c 109 :: slO asnT 121 va A :: slO linkT 78 vl L :: os)) x.1 x.2.1 x.2.2)) (F := (fun x => (fun k q vq => [(8, I ((k : Int))), (7, vq), (0, .pointer (some ⟨c, 0, none⟩)), (2, I kd), (4, .pointer (some ⟨g4, 0, none⟩)), (6, .pointer (some ⟨g6, 0, none⟩))]) x.1 x.2.1 x.2.2)) (μ := (fun x => (fun k q vq => A.length - k) x.1 x.2.1 x.2.2)) (k + 1, q, vq) ?_ (by exact ⟨rfl, rfl, rfl, rfl, rfl, rfl, trivial⟩) (by (try dsimp only); omega)
      try dsimp only
      exact ⟨by omega, hq, by omega, B, S⟩
  · intro hge
    refine w_exit ?_
    refine x_then_exit ?_
    refine x_then_exit ?_
    refine x_block_exit ?_
    refine x_seq ?_
    refine w_seq ?_
    refine w_region ?_
    refine t_move rfl ?_ rfl
    have S := S.f3
    refine t_callf Try.call64 rfl (spec_l1Below 50 S (K.below B)) ?_ rfl
    rintro e w26 ⟨y37, rfl, hf37, S, x27⟩
    refine ⟨_, rfl, ?_⟩
    have B := B.trans x27
    refine t_move rfl ?_ rfl
    refine t_callf Try.call64 rfl (spec_l1Below 1000000 S (K.below B)) ?_ rfl
    rintro e w28 ⟨y39, rfl, hf39, S, x29⟩
    refine ⟨_, rfl, ?_⟩
    have B := B.trans x29
    refine t_build (fun w => b_seg2 _ _ w) rfl ?_ rfl
    refine t_alloc S z_seg rfl ?_ rfl rfl
    intro g9 w30 x31 S
    have B := bx Hb B x31
    refine t_stn S sb_seg rfl rfl rfl rfl (by simp [Value.oneCell']) ?_
    intro w32 b33 S
    have B := B.trans b33
    refine t_done ?_
    refine x_seq ?_
    refine w_seq ?_
    refine w_seq ?_
    refine w_region ?_
    refine t_move rfl ?_ rfl
    refine t_len e_int (S.tail.tail.sl) rfl rfl ?_ rfl
    refine t_eql rfl rfl ?_ rfl
    refine t_done ?_
    refine x_seq ?_
    refine w_if rfl ?_ ?_
    · intro h0
      refine w_seq ?_
      refine w_region ?_
      refine t_bxn S.box ab_seg sb_seg rfl rfl ?_ rfl
      have S := S.f3
      refine t_stn S sb_seg rfl rfl rfl rfl (by simp [Value.oneCell']) ?_
      intro w34 b35 S
      have B := B.trans b35
      refine t_done ?_
      refine x_seq ?_
      refine w_ret ?_
      refine x_then_ret ?_
      refine x_retc rfl rfl S.box ab_seg sb_seg rfl ?_
      have S := S.tail
      have S := S.tail
      have S := S.f1
      have S := S.tail
      have S := S.f1
      have S := S.tail
      have S := S.f2
      have S := S.f2
      have S := S.f2
      have S := Sep.addNil (T := hopT) (e := 74) S
      exact ⟨_, ⟨y37, y39, []⟩, rfl, SealK.nil.seg (by omega) (by omega) (by omega) (by omega) (by simp), S, B⟩
    · intro h0
      refine w_skip ?_
      refine x_seq ?_
      refine w_seq ?_
      refine w_region ?_
      refine t_move rfl ?_ rfl
      refine t_move rfl ?_ rfl
      refine t_move rfl ?_ rfl
      refine t_len e_int (S.tail.tail.sl) rfl rfl ?_ rfl
      have S := S.f1
      refine t_callf Try.call64 rfl (spec_l1Below (q.length : Int) S (K.below B)) ?_ rfl
      rintro e w36 ⟨y49, rfl, hf49, S, x37⟩
      refine ⟨_, rfl, ?_⟩
      have B := B.trans x37
      obtain ⟨e50, he50⟩ : ∃ e, (q)[y49.toNat]? = some e := getx (by omega)
      refine t_idx e_int (k := y49.toNat) (S.tail.tail.sl) he50 (Below.refl _ _) rfl rfl (by first | rfl | omega) ?_ rfl
      intro p50 hp50
      refine t_ldi (by assumption) ab_int (Below.refl _ _) rfl ?_ rfl
      refine t_assign rfl ?_ rfl
      refine t_done ?_
      refine x_seq ?_
      refine w_seq ?_
      refine w_region ?_
      refine t_assign rfl ?_ rfl
      refine t_done ?_
      refine x_seq ?_
      refine w_seq ?_
      refine w_seq ?_
      refine w_region ?_
      refine t_assign rfl ?_ rfl
      refine t_done ?_
      refine x_seq ?_
      refine w_block ?_
      have hr0 := hq e50 (List.mem_of_getElem? he50)
      clear hge hk h0
      have S := Sep.addNil (T := hopT) (e := 74) S
      have S := S.f7
      have S := S.f7
      have S := S.f3
      have S := S.f7
      have S := S.f7
      have S := S.f7
      have S := S.f7
      have S := S.f7
      refine w_loop (X := Nat × Int × Int × List Hop × Value) (fun x wq => (fun k r i hs vh => k ≤ 5 ∧ (0 ≤ r ∧ r < (A.length : Int)) ∧ (0 ≤ i ∧ i ≤ 6) ∧ List.length hs ≤ k ∧ SealK ⟨A, L⟩ y37 y39 hs ∧ Below b w wq ∧ Sep b wq (slO hopT 74 vh hs :: bxO g9 107 #[I y37, I y39, vh] :: slO intT 3 vq q :: bxO g6 107 #[I 0, I 0, .slice none 0 0] :: bxO g4 27 #[va, vl] :: curO v n c 109 :: slO asnT 121 va A :: slO linkT 78 vl L :: os)) x.1 x.2.1 x.2.2.1 x.2.2.2.1 x.2.2.2.2) (fun x => (fun k r i hs vh => [(12, I ((k : Int))), (10, I r), (11, I i), (0, .pointer (some ⟨c, 0, none⟩)), (2, I kd), (4, .pointer (some ⟨g4, 0, none⟩)), (6, .pointer (some ⟨g6, 0, none⟩)), (9, .pointer (some ⟨g9, 0, none⟩))]) x.1 x.2.1 x.2.2.1 x.2.2.2.1 x.2.2.2.2) (fun x => (fun k r i hs vh => 5 - k) x.1 x.2.1 x.2.2.1 x.2.2.2.1 x.2.2.2.2) (0, e50, 0, [], .slice none 0 0) ?_ ⟨rfl, rfl, rfl, rfl, rfl, rfl, rfl, rfl, trivial⟩ ?_
      · exact ⟨by omega, hr0, by dsimp only; omega, by simp, .nil, B, S⟩
      rintro ⟨k, r, i, hs, vh⟩ w38 hI
      try dsimp only at hI ⊢
      obtain ⟨hk, hr, hi, hhl, hS, B, S⟩ := hI
      refine w_seq ?_
      refine w_seq ?_
      refine w_region ?_
      refine t_move rfl ?_ rfl
      refine t_lss rfl rfl ?_ rfl
      refine t_done ?_
      refine x_seq ?_
      refine w_if rfl ?_ ?_
      · intro hlt
        have hsl : (⟨y37, y39, hs⟩ : Seg).hops.length ≤ 5 := (show hs.length ≤ 5 by omega)
        refine w_skip ?_
        refine x_seq ?_
        refine w_seq ?_
        refine w_block ?_
        refine w_seq ?_
        refine w_region ?_
        refine t_assign rfl ?_ rfl
        refine t_done ?_
        refine x_seq ?_
        refine w_seq ?_
        refine w_region ?_
        refine t_bxn S.tail.tail.tail.tail.box ab_topo sb_topo rfl rfl ?_ rfl
        refine t_move rfl ?_ rfl
        refine t_move rfl ?_ rfl
        refine t_call Try.call122 rfl (spec_InterfacesOfKind _ _ _ _ _ (topo_mkv (S.tail.tail.tail.tail.tail.tail.sl) (S.tail.tail.tail.tail.tail.tail.tail.sl)) (by assumption)) ?_ rfl rfl
        rintro e w39 ⟨v59, fpv59, rfl, hOv59, x40⟩
        refine ⟨_, rfl, x40, ?_⟩
        have S := S.add (o := slO _ _ _ _) x40 hOv59
        have B := bx Hb B x40
        refine t_assign rfl ?_ rfl
        refine t_done ?_
        refine x_seq ?_
        refine w_seq ?_
        refine w_cut (X := Int) (fun o wq => (o = 0 ∨ o ∈ ifsK ⟨A, L⟩ r kd) ∧ Below b w wq ∧ Sep b wq (slO intT 3 v59 (ifsK ⟨A, L⟩ r kd) :: slO hopT 74 vh hs :: bxO g9 107 #[I y37, I y39, vh] :: slO intT 3 vq q :: bxO g6 107 #[I 0, I 0, .slice none 0 0] :: bxO g4 27 #[va, vl] :: curO v n c 109 :: slO asnT 121 va A :: slO linkT 78 vl L :: os)) (fun o => [(13, I o), (12, I ((k : Int))), (10, I r), (11, I i), (0, .pointer (some ⟨c, 0, none⟩)), (2, I kd), (4, .pointer (some ⟨g4, 0, none⟩)), (6, .pointer (some ⟨g6, 0, none⟩)), (9, .pointer (some ⟨g9, 0, none⟩))]) ?_ ?_
        · refine w_seq ?_
          refine w_region ?_
          refine t_move rfl ?_ rfl
          refine t_len e_int (S.sl) rfl rfl ?_ rfl
          refine t_gtr rfl rfl ?_ rfl
          refine t_move rfl ?_ rfl
          refine t_partp (t := 63) rfl ?_ ?_
          · intro hp1
            refine t_on rfl rfl ?_
            refine t_move rfl ?_ rfl
            refine t_on rfl rfl ?_
            have S := S.f6
            refine t_callf Try.call116 rfl (spec_l1Once 5 S (K.below B)) ?_ rfl
            rintro e w41 ⟨y65, rfl, hf65, S, x42⟩
            refine ⟨_, rfl, ?_⟩
            have B := B.trans x42
            refine t_on rfl rfl ?_
            refine t_not rfl ?_ rfl
            refine t_pickt rfl rfl ?_ rfl
            refine t_done ?_
            refine x_seq ?_
            refine w_if rfl ?_ ?_
            · intro ho
              refine w_region ?_
              refine t_move rfl ?_ rfl
              refine t_move rfl ?_ rfl
              refine t_move rfl ?_ rfl
              refine t_len e_int (S.tail.sl) rfl rfl ?_ rfl
              refine t_callf Try.call64 rfl (spec_l1Below ((((ifsK (⟨A, L⟩ : Topo) r kd)).length : Int)) S (K.below B)) ?_ rfl
              rintro e w43 ⟨y72, rfl, hf72, S, x44⟩
              refine ⟨_, rfl, ?_⟩
              have B := B.trans x44
              obtain ⟨e73, he73⟩ : ∃ e, ((ifsK (⟨A, L⟩ : Topo) r kd))[y72.toNat]? = some e := getx (by omega)
              refine t_idx e_int (k := y72.toNat) (S.tail.sl) he73 (Below.refl _ _) rfl rfl (by first | rfl | omega) ?_ rfl
              intro p73 hp73
              refine t_ldi (by assumption) ab_int (Below.refl _ _) rfl ?_ rfl
              refine t_assign rfl ?_ rfl
              refine t_done ?_
              have S := S.f8
              have S := S.f8
              have S := S.f2
              have S := S.f8
              have S := S.f8
              have S := S.f8
              have S := S.f8
              have S := S.f8
              have S := S.f8
              refine x_cut (X := Int) (I := (fun o wq => (o = 0 ∨ o ∈ ifsK ⟨A, L⟩ r kd) ∧ Below b w wq ∧ Sep b wq (slO intT 3 v59 (ifsK ⟨A, L⟩ r kd) :: slO hopT 74 vh hs :: bxO g9 107 #[I y37, I y39, vh] :: slO intT 3 vq q :: bxO g6 107 #[I 0, I 0, .slice none 0 0] :: bxO g4 27 #[va, vl] :: curO v n c 109 :: slO asnT 121 va A :: slO linkT 78 vl L :: os))) (F := (fun o => [(13, I o), (12, I ((k : Int))), (10, I r), (11, I i), (0, .pointer (some ⟨c, 0, none⟩)), (2, I kd), (4, .pointer (some ⟨g4, 0, none⟩)), (6, .pointer (some ⟨g6, 0, none⟩)), (9, .pointer (some ⟨g9, 0, none⟩))])) (e73) ?_ (by exact ⟨rfl, rfl, rfl, rfl, rfl, rfl, rfl, rfl, rfl, trivial⟩)
              try dsimp only
              exact ⟨.inr (List.mem_of_getElem? he73), B, S⟩
            · intro ho
              refine w_skip ?_
              have S := S.f8
              have S := S.f8
              have S := S.f2
              have S := S.f8
              have S := S.f8
              have S := S.f8
              have S := S.f8
              have S := S.f8
              have S := S.f8
              refine x_cut (X := Int) (I := (fun o wq => (o = 0 ∨ o ∈ ifsK ⟨A, L⟩ r kd) ∧ Below b w wq ∧ Sep b wq (slO intT 3 v59 (ifsK ⟨A, L⟩ r kd) :: slO hopT 74 vh hs :: bxO g9 107 #[I y37, I y39, vh] :: slO intT 3 vq q :: bxO g6 107 #[I 0, I 0, .slice none 0 0] :: bxO g4 27 #[va, vl] :: curO v n c 109 :: slO asnT 121 va A :: slO linkT 78 vl L :: os))) (F := (fun o => [(13, I o), (12, I ((k : Int))), (10, I r), (11, I i), (0, .pointer (some ⟨c, 0, none⟩)), (2, I kd), (4, .pointer (some ⟨g4, 0, none⟩)), (6, .pointer (some ⟨g6, 0, none⟩)), (9, .pointer (some ⟨g9, 0, none⟩))])) (0) ?_ (by exact ⟨rfl, rfl, rfl, rfl, rfl, rfl, rfl, rfl, rfl, trivial⟩)
              try dsimp only
              exact ⟨.inl rfl, B, S⟩
          · intro hp1
            refine t_off rfl rfl rfl ?_ rfl
            refine t_off rfl rfl rfl ?_ rfl
            refine t_off rfl rfl rfl ?_ rfl
            refine t_pickf rfl rfl ?_ rfl
            refine t_done ?_
            refine x_seq ?_
            refine w_no rfl ?_
            refine w_skip ?_
            refine x_cut (X := Int) (I := (fun o wq => (o = 0 ∨ o ∈ ifsK ⟨A, L⟩ r kd) ∧ Below b w wq ∧ Sep b wq (slO intT 3 v59 (ifsK ⟨A, L⟩ r kd) :: slO hopT 74 vh hs :: bxO g9 107 #[I y37, I y39, vh] :: slO intT 3 vq q :: bxO g6 107 #[I 0, I 0, .slice none 0 0] :: bxO g4 27 #[va, vl] :: curO v n c 109 :: slO asnT 121 va A :: slO linkT 78 vl L :: os))) (F := (fun o => [(13, I o), (12, I ((k : Int))), (10, I r), (11, I i), (0, .pointer (some ⟨c, 0, none⟩)), (2, I kd), (4, .pointer (some ⟨g4, 0, none⟩)), (6, .pointer (some ⟨g6, 0, none⟩)), (9, .pointer (some ⟨g9, 0, none⟩))])) (0) ?_ (by exact ⟨rfl, rfl, rfl, rfl, rfl, rfl, rfl, rfl, rfl, trivial⟩)
            try dsimp only
            exact ⟨.inl rfl, B, S⟩
        rintro o w45 hI
        try dsimp only at hI ⊢
        obtain ⟨ho, B, S⟩ := hI
        have hor : 0 ≤ o ∧ o ≤ 6 := by
          rcases ho with rfl | ho
          · omega
          · have := (ifsK_in hK ho).2; omega
        have hrem : o ≠ 0 → (0 ≤ (remote ⟨A, L⟩ r o).1 ∧ (remote ⟨A, L⟩ r o).1 < A.length) ∧ 1 ≤ (remote ⟨A, L⟩ r o).2 ∧ (remote ⟨A, L⟩ r o).2 ≤ 6 := fun hz => by
          rcases ho with rfl | ho
          · omega
          · exact remote_in hK (ifsK_in hK ho).1
        refine w_seq ?_
        refine w_region ?_
        refine t_bxn S.tail.tail.tail.tail.tail.box ab_topo sb_topo rfl rfl ?_ rfl
        refine t_move rfl ?_ rfl
        refine t_move rfl ?_ rfl
        refine t_callx Try.call105 rfl (spec_RemoteEnd (⟨A, L⟩ : Topo) _ _ _ _ (topo_mkv (S.tail.tail.tail.tail.tail.tail.tail.sl) (S.tail.tail.tail.tail.tail.tail.tail.tail.sl)) (by omega)) ?_ rfl rfl
        intro w46 x47
        have B := bx Hb B x47
        have S := S.below x47
        refine t_move rfl ?_ rfl
        refine t_extract rfl rfl ?_ rfl
        refine t_extract rfl rfl ?_ rfl
        refine t_assign rfl ?_ rfl
        refine t_assign rfl ?_ rfl
        refine t_done ?_
        refine x_seq ?_
        refine w_seq ?_
        refine w_cut (X := Int) (fun z wq => (z = 0 ∨ z = o) ∧ i ≠ z ∧ Below b w wq ∧ Sep b wq (slO hopT 74 vh hs :: bxO g9 107 #[I y37, I y39, vh] :: slO intT 3 vq q :: bxO g6 107 #[I 0, I 0, .slice none 0 0] :: bxO g4 27 #[va, vl] :: curO v n c 109 :: slO asnT 121 va A :: slO linkT 78 vl L :: os)) (fun z => [(13, I z), (12, I ((k : Int))), (10, I r), (11, I i), (0, .pointer (some ⟨c, 0, none⟩)), (2, I kd), (4, .pointer (some ⟨g4, 0, none⟩)), (6, .pointer (some ⟨g6, 0, none⟩)), (9, .pointer (some ⟨g9, 0, none⟩)), (15, I ((remote (⟨A, L⟩ : Topo) r o).1)), (16, I ((remote (⟨A, L⟩ : Topo) r o).2))]) ?_ ?_
        · refine w_seq ?_
          refine w_region ?_
          refine t_move rfl ?_ rfl
          refine t_neq rfl rfl ?_ rfl
          refine t_move rfl ?_ rfl
          refine t_partp (t := 84) rfl ?_ ?_
          · intro hc1
            refine t_on rfl rfl ?_
            refine t_bxn S.tail.tail.box ab_seg sb_seg rfl rfl ?_ rfl
            refine t_on rfl rfl ?_
            refine t_call Try.call123 rfl (spec_SegmentASes (⟨y37, y39, hs⟩ : Seg) _ _ (seg_mkv (x := (⟨y37, y39, hs⟩ : Seg)) (S.tail.sl)) (by (try dsimp only); omega)) ?_ rfl rfl
            rintro e w48 ⟨v86, fpv86, rfl, hOv86, x49⟩
            refine ⟨_, rfl, x49, ?_⟩
            have S := S.add (o := slO _ _ _ _) x49 hOv86
            have B := bx Hb B x49
            refine t_on rfl rfl ?_
            refine t_move rfl ?_ rfl
            refine t_on rfl rfl ?_
            refine t_calls Try.call104 rfl (spec_l9Has _ _ _ _ (S.sl) (by (try rw [List.length_take]); (try rw [List.length_map]); omega)) ?_ rfl rfl
            refine t_on rfl rfl ?_
            refine t_move rfl ?_ rfl
            refine t_part (t := 89) rfl ?_ ?_
            · intro hc2
              refine t_off rfl rfl rfl ?_ rfl
              refine t_off rfl rfl rfl ?_ rfl
              refine t_off rfl rfl rfl ?_ rfl
              refine t_on rfl rfl ?_
              refine t_pickt rfl rfl ?_ rfl
              refine t_pickt rfl rfl ?_ rfl
              refine t_move rfl ?_ rfl
              refine t_off rfl rfl rfl ?_ rfl
              refine t_off rfl rfl rfl ?_ rfl
              refine t_off rfl rfl rfl ?_ rfl
              refine t_pickt rfl rfl ?_ rfl
              refine t_done ?_
              refine x_seq ?_
              refine w_yes rfl ?_
              refine w_seq ?_
              refine w_seq ?_
              refine w_region ?_
              refine t_move rfl ?_ rfl
              refine t_eql rfl rfl ?_ rfl
              refine t_done ?_
              refine x_seq ?_
              refine w_if rfl ?_ ?_
              · intro hc3
                refine w_seq ?_
                refine w_region ?_
                refine t_bxn S.tail.tail.tail.box ab_seg sb_seg rfl rfl ?_ rfl
                have S := S.f5
                refine t_stn S sb_seg rfl rfl rfl rfl (by intro zz hu; have hu : zz ∈ ([I y37, I y39, vh] : List Value) := hu; simp only [List.mem_cons, List.not_mem_nil, or_false] at hu; rcases hu with rfl | rfl | rfl <;> first | rfl | exact (SlR.cells (by first | assumption | exact S.tail.sl | exact S.tail.tail.sl | exact S.tail.tail.tail.sl | exact S.tail.tail.tail.tail.sl | exact S.tail.tail.tail.tail.tail.sl | exact S.tail.tail.tail.tail.tail.tail.sl | exact S.tail.tail.tail.tail.tail.tail.tail.sl | exact S.tail.tail.tail.tail.tail.tail.tail.tail.sl)).2) ?_
                intro w50 b51 S
                have B := B.trans b51
                refine t_done ?_
                refine x_seq ?_
                refine w_ret ?_
                refine x_then_ret ?_
                refine x_then_ret ?_
                refine x_block_ret ?_
                refine x_then_ret ?_
                refine x_then_ret ?_
                refine x_block_ret ?_
                refine x_then_ret ?_
                refine x_retc rfl rfl S.box ab_seg sb_seg rfl ?_
                have S := S.tail
                have S := S.tail
                have S := S.tail
                have S := S.f1
                have S := S.tail
                have S := S.f1
                have S := S.tail
                have S := S.f1
                have S := S.tail
                have S := S.f3
                have S := S.f3
                have S := S.f3
                have S := S.f3
                exact ⟨_, ⟨y37, y39, hs⟩, rfl, hS.seg (by omega) (by omega) (by omega) (by omega) (by omega), S, B⟩
              · intro hc4
                refine w_skip ?_
                refine x_seq ?_
                refine w_region ?_
                refine t_assign rfl ?_ rfl
                refine t_done ?_
                have S := S.tail
                have S := S.tail
                refine x_cut (X := Int) (I := (fun z wq => (z = 0 ∨ z = o) ∧ i ≠ z ∧ Below b w wq ∧ Sep b wq (slO hopT 74 vh hs :: bxO g9 107 #[I y37, I y39, vh] :: slO intT 3 vq q :: bxO g6 107 #[I 0, I 0, .slice none 0 0] :: bxO g4 27 #[va, vl] :: curO v n c 109 :: slO asnT 121 va A :: slO linkT 78 vl L :: os))) (F := (fun z => [(13, I z), (12, I ((k : Int))), (10, I r), (11, I i), (0, .pointer (some ⟨c, 0, none⟩)), (2, I kd), (4, .pointer (some ⟨g4, 0, none⟩)), (6, .pointer (some ⟨g6, 0, none⟩)), (9, .pointer (some ⟨g9, 0, none⟩)), (15, I ((remote (⟨A, L⟩ : Topo) r o).1)), (16, I ((remote (⟨A, L⟩ : Topo) r o).2))])) (0) ?_ (by exact ⟨rfl, rfl, rfl, rfl, rfl, rfl, rfl, rfl, rfl, rfl, rfl, trivial⟩)
                try dsimp only
                exact ⟨by omega, by omega, B, S⟩
            · intro hc5
              refine t_on rfl rfl ?_
              refine t_move rfl ?_ rfl
              refine t_on rfl rfl ?_
              refine t_move rfl ?_ rfl
              refine t_on rfl rfl ?_
              refine t_eql rfl rfl ?_ rfl
              refine t_on rfl rfl ?_
              refine t_pickf rfl rfl ?_ rfl
              refine t_pickt rfl rfl ?_ rfl
              refine t_move rfl ?_ rfl
              refine t_partp (t := 95) rfl ?_ ?_
              · intro hc6
                refine t_off rfl rfl rfl ?_ rfl
                refine t_off rfl rfl rfl ?_ rfl
                refine t_off rfl rfl rfl ?_ rfl
                refine t_pickt rfl rfl ?_ rfl
                refine t_done ?_
                refine x_seq ?_
                refine w_yes rfl ?_
                refine w_seq ?_
                refine w_seq ?_
                refine w_region ?_
                refine t_move rfl ?_ rfl
                refine t_eql rfl rfl ?_ rfl
                refine t_done ?_
                refine x_seq ?_
                refine w_if rfl ?_ ?_
                · intro hc7
                  refine w_seq ?_
                  refine w_region ?_
                  refine t_bxn S.tail.tail.tail.box ab_seg sb_seg rfl rfl ?_ rfl
                  have S := S.f5
                  refine t_stn S sb_seg rfl rfl rfl rfl (by intro zz hu; have hu : zz ∈ ([I y37, I y39, vh] : List Value) := hu; simp only [List.mem_cons, List.not_mem_nil, or_false] at hu; rcases hu with rfl | rfl | rfl <;> first | rfl | exact (SlR.cells (by first | assumption | exact S.tail.sl | exact S.tail.tail.sl | exact S.tail.tail.tail.sl | exact S.tail.tail.tail.tail.sl | exact S.tail.tail.tail.tail.tail.sl | exact S.tail.tail.tail.tail.tail.tail.sl | exact S.tail.tail.tail.tail.tail.tail.tail.sl | exact S.tail.tail.tail.tail.tail.tail.tail.tail.sl)).2) ?_
                  intro w52 b53 S
                  have B := B.trans b53
                  refine t_done ?_
                  refine x_seq ?_
                  refine w_ret ?_
                  refine x_then_ret ?_
                  refine x_then_ret ?_
                  refine x_block_ret ?_
                  refine x_then_ret ?_
                  refine x_then_ret ?_
                  refine x_block_ret ?_
                  refine x_then_ret ?_
                  refine x_retc rfl rfl S.box ab_seg sb_seg rfl ?_
                  have S := S.tail
                  have S := S.tail
                  have S := S.tail
                  have S := S.f1
                  have S := S.tail
                  have S := S.f1
                  have S := S.tail
                  have S := S.f1
                  have S := S.tail
                  have S := S.f3
                  have S := S.f3
                  have S := S.f3
                  have S := S.f3
                  exact ⟨_, ⟨y37, y39, hs⟩, rfl, hS.seg (by omega) (by omega) (by omega) (by omega) (by omega), S, B⟩
                · intro hc8
                  refine w_skip ?_
                  refine x_seq ?_
                  refine w_region ?_
                  refine t_assign rfl ?_ rfl
                  refine t_done ?_
                  have S := S.tail
                  have S := S.tail
                  refine x_cut (X := Int) (I := (fun z wq => (z = 0 ∨ z = o) ∧ i ≠ z ∧ Below b w wq ∧ Sep b wq (slO hopT 74 vh hs :: bxO g9 107 #[I y37, I y39, vh] :: slO intT 3 vq q :: bxO g6 107 #[I 0, I 0, .slice none 0 0] :: bxO g4 27 #[va, vl] :: curO v n c 109 :: slO asnT 121 va A :: slO linkT 78 vl L :: os))) (F := (fun z => [(13, I z), (12, I ((k : Int))), (10, I r), (11, I i), (0, .pointer (some ⟨c, 0, none⟩)), (2, I kd), (4, .pointer (some ⟨g4, 0, none⟩)), (6, .pointer (some ⟨g6, 0, none⟩)), (9, .pointer (some ⟨g9, 0, none⟩)), (15, I ((remote (⟨A, L⟩ : Topo) r o).1)), (16, I ((remote (⟨A, L⟩ : Topo) r o).2))])) (0) ?_ (by exact ⟨rfl, rfl, rfl, rfl, rfl, rfl, rfl, rfl, rfl, rfl, rfl, trivial⟩)
                  try dsimp only
                  exact ⟨by omega, by omega, B, S⟩
              · intro hc9
                refine t_on rfl rfl ?_
                refine t_move rfl ?_ rfl
                refine t_on rfl rfl ?_
                refine t_move rfl ?_ rfl
                refine t_on rfl rfl ?_
                refine t_eql rfl rfl ?_ rfl
                refine t_pickf rfl rfl ?_ rfl
                refine t_done ?_
                refine x_seq ?_
                refine w_if rfl ?_ ?_
                · intro hc10
                  refine w_seq ?_
                  refine w_seq ?_
                  refine w_region ?_
                  refine t_move rfl ?_ rfl
                  refine t_eql rfl rfl ?_ rfl
                  refine t_done ?_
                  refine x_seq ?_
                  refine w_if rfl ?_ ?_
                  · intro hc11
                    refine w_seq ?_
                    refine w_region ?_
                    refine t_bxn S.tail.tail.tail.box ab_seg sb_seg rfl rfl ?_ rfl
                    have S := S.f5
                    refine t_stn S sb_seg rfl rfl rfl rfl (by intro zz hu; have hu : zz ∈ ([I y37, I y39, vh] : List Value) := hu; simp only [List.mem_cons, List.not_mem_nil, or_false] at hu; rcases hu with rfl | rfl | rfl <;> first | rfl | exact (SlR.cells (by first | assumption | exact S.tail.sl | exact S.tail.tail.sl | exact S.tail.tail.tail.sl | exact S.tail.tail.tail.tail.sl | exact S.tail.tail.tail.tail.tail.sl | exact S.tail.tail.tail.tail.tail.tail.sl | exact S.tail.tail.tail.tail.tail.tail.tail.sl | exact S.tail.tail.tail.tail.tail.tail.tail.tail.sl)).2) ?_
                    intro w54 b55 S
                    have B := B.trans b55
                    refine t_done ?_
                    refine x_seq ?_
                    refine w_ret ?_
                    refine x_then_ret ?_
                    refine x_then_ret ?_
                    refine x_block_ret ?_
                    refine x_then_ret ?_
                    refine x_then_ret ?_
                    refine x_block_ret ?_
                    refine x_then_ret ?_
                    refine x_retc rfl rfl S.box ab_seg sb_seg rfl ?_
                    have S := S.tail
                    have S := S.tail
                    have S := S.tail
                    have S := S.f1
                    have S := S.tail
                    have S := S.f1
                    have S := S.tail
                    have S := S.f1
                    have S := S.tail
                    have S := S.f3
                    have S := S.f3
                    have S := S.f3
                    have S := S.f3
                    exact ⟨_, ⟨y37, y39, hs⟩, rfl, hS.seg (by omega) (by omega) (by omega) (by omega) (by omega), S, B⟩
                  · intro hc12
                    refine w_skip ?_
                    refine x_seq ?_
                    refine w_region ?_
                    refine t_assign rfl ?_ rfl
                    refine t_done ?_
                    have S := S.tail
                    have S := S.tail
                    refine x_cut (X := Int) (I := (fun z wq => (z = 0 ∨ z = o) ∧ i ≠ z ∧ Below b w wq ∧ Sep b wq (slO hopT 74 vh hs :: bxO g9 107 #[I y37, I y39, vh] :: slO intT 3 vq q :: bxO g6 107 #[I 0, I 0, .slice none 0 0] :: bxO g4 27 #[va, vl] :: curO v n c 109 :: slO asnT 121 va A :: slO linkT 78 vl L :: os))) (F := (fun z => [(13, I z), (12, I ((k : Int))), (10, I r), (11, I i), (0, .pointer (some ⟨c, 0, none⟩)), (2, I kd), (4, .pointer (some ⟨g4, 0, none⟩)), (6, .pointer (some ⟨g6, 0, none⟩)), (9, .pointer (some ⟨g9, 0, none⟩)), (15, I ((remote (⟨A, L⟩ : Topo) r o).1)), (16, I ((remote (⟨A, L⟩ : Topo) r o).2))])) (0) ?_ (by exact ⟨rfl, rfl, rfl, rfl, rfl, rfl, rfl, rfl, rfl, rfl, rfl, trivial⟩)
                    try dsimp only
                    exact ⟨by omega, by omega, B, S⟩
                · intro hc13
                  refine w_skip ?_
                  have S := S.tail
                  have S := S.tail
                  refine x_cut (X := Int) (I := (fun z wq => (z = 0 ∨ z = o) ∧ i ≠ z ∧ Below b w wq ∧ Sep b wq (slO hopT 74 vh hs :: bxO g9 107 #[I y37, I y39, vh] :: slO intT 3 vq q :: bxO g6 107 #[I 0, I 0, .slice none 0 0] :: bxO g4 27 #[va, vl] :: curO v n c 109 :: slO asnT 121 va A :: slO linkT 78 vl L :: os))) (F := (fun z => [(13, I z), (12, I ((k : Int))), (10, I r), (11, I i), (0, .pointer (some ⟨c, 0, none⟩)), (2, I kd), (4, .pointer (some ⟨g4, 0, none⟩)), (6, .pointer (some ⟨g6, 0, none⟩)), (9, .pointer (some ⟨g9, 0, none⟩)), (15, I ((remote (⟨A, L⟩ : Topo) r o).1)), (16, I ((remote (⟨A, L⟩ : Topo) r o).2))])) (o) ?_ (by exact ⟨rfl, rfl, rfl, rfl, rfl, rfl, rfl, rfl, rfl, rfl, rfl, trivial⟩)
                  try dsimp only
                  exact ⟨by omega, by omega, B, S⟩
          · intro hc14
            refine t_off rfl rfl rfl ?_ rfl
            refine t_off rfl rfl rfl ?_ rfl
            refine t_off rfl rfl rfl ?_ rfl
            refine t_off rfl rfl rfl ?_ rfl
            refine t_off rfl rfl rfl ?_ rfl
            refine t_offu rfl rfl ?_ rfl
            refine t_offu rfl rfl ?_ rfl
            refine t_offu rfl rfl ?_ rfl
            refine t_off rfl rfl rfl ?_ rfl
            refine t_pickf rfl rfl ?_ rfl
            refine t_move rfl ?_ rfl
            refine t_on rfl rfl ?_
            refine t_move rfl ?_ rfl
            refine t_on rfl rfl ?_
            refine t_move rfl ?_ rfl
            refine t_on rfl rfl ?_
            refine t_eql rfl rfl ?_ rfl
            refine t_pickf rfl rfl ?_ rfl
            refine t_done ?_
            refine x_seq ?_
            refine w_if rfl ?_ ?_
            · intro hc15
              refine w_seq ?_
              refine w_seq ?_
              refine w_region ?_
              refine t_move rfl ?_ rfl
              refine t_eql rfl rfl ?_ rfl
              refine t_done ?_
              refine x_seq ?_
              refine w_if rfl ?_ ?_
              · intro hc16
                refine w_seq ?_
                refine w_region ?_
                refine t_bxn S.tail.tail.box ab_seg sb_seg rfl rfl ?_ rfl
                have S := S.f4
                refine t_stn S sb_seg rfl rfl rfl rfl (by intro zz hu; have hu : zz ∈ ([I y37, I y39, vh] : List Value) := hu; simp only [List.mem_cons, List.not_mem_nil, or_false] at hu; rcases hu with rfl | rfl | rfl <;> first | rfl | exact (SlR.cells (by first | assumption | exact S.tail.sl | exact S.tail.tail.sl | exact S.tail.tail.tail.sl | exact S.tail.tail.tail.tail.sl | exact S.tail.tail.tail.tail.tail.sl | exact S.tail.tail.tail.tail.tail.tail.sl | exact S.tail.tail.tail.tail.tail.tail.tail.sl | exact S.tail.tail.tail.tail.tail.tail.tail.tail.sl)).2) ?_
                intro w56 b57 S
                have B := B.trans b57
                refine t_done ?_
                refine x_seq ?_
                refine w_ret ?_
                refine x_then_ret ?_
                refine x_then_ret ?_
                refine x_block_ret ?_
                refine x_then_ret ?_
                refine x_then_ret ?_
                refine x_block_ret ?_
                refine x_then_ret ?_
                refine x_retc rfl rfl S.box ab_seg sb_seg rfl ?_
                have S := S.tail
                have S := S.tail
                have S := S.f1
                have S := S.tail
                have S := S.f1
                have S := S.tail
                have S := S.f1
                have S := S.tail
                have S := S.f3
                have S := S.f3
                have S := S.f3
                have S := S.f3
                exact ⟨_, ⟨y37, y39, hs⟩, rfl, hS.seg (by omega) (by omega) (by omega) (by omega) (by omega), S, B⟩
              · intro hc17
                refine w_skip ?_
                refine x_seq ?_
                refine w_region ?_
                refine t_assign rfl ?_ rfl
                refine t_done ?_
                have S := S.tail
                refine x_cut (X := Int) (I := (fun z wq => (z = 0 ∨ z = o) ∧ i ≠ z ∧ Below b w wq ∧ Sep b wq (slO hopT 74 vh hs :: bxO g9 107 #[I y37, I y39, vh] :: slO intT 3 vq q :: bxO g6 107 #[I 0, I 0, .slice none 0 0] :: bxO g4 27 #[va, vl] :: curO v n c 109 :: slO asnT 121 va A :: slO linkT 78 vl L :: os))) (F := (fun z => [(13, I z), (12, I ((k : Int))), (10, I r), (11, I i), (0, .pointer (some ⟨c, 0, none⟩)), (2, I kd), (4, .pointer (some ⟨g4, 0, none⟩)), (6, .pointer (some ⟨g6, 0, none⟩)), (9, .pointer (some ⟨g9, 0, none⟩)), (15, I ((remote (⟨A, L⟩ : Topo) r o).1)), (16, I ((remote (⟨A, L⟩ : Topo) r o).2))])) (0) ?_ (by exact ⟨rfl, rfl, rfl, rfl, rfl, rfl, rfl, rfl, rfl, rfl, rfl, trivial⟩)
                try dsimp only
                exact ⟨by omega, by omega, B, S⟩
            · intro hc18
              refine w_skip ?_
              have S := S.tail
              refine x_cut (X := Int) (I := (fun z wq => (z = 0 ∨ z = o) ∧ i ≠ z ∧ Below b w wq ∧ Sep b wq (slO hopT 74 vh hs :: bxO g9 107 #[I y37, I y39, vh] :: slO intT 3 vq q :: bxO g6 107 #[I 0, I 0, .slice none 0 0] :: bxO g4 27 #[va, vl] :: curO v n c 109 :: slO asnT 121 va A :: slO linkT 78 vl L :: os))) (F := (fun z => [(13, I z), (12, I ((k : Int))), (10, I r), (11, I i), (0, .pointer (some ⟨c, 0, none⟩)), (2, I kd), (4, .pointer (some ⟨g4, 0, none⟩)), (6, .pointer (some ⟨g6, 0, none⟩)), (9, .pointer (some ⟨g9, 0, none⟩)), (15, I ((remote (⟨A, L⟩ : Topo) r o).1)), (16, I ((remote (⟨A, L⟩ : Topo) r o).2))])) (o) ?_ (by exact ⟨rfl, rfl, rfl, rfl, rfl, rfl, rfl, rfl, rfl, rfl, rfl, trivial⟩)
              try dsimp only
              exact ⟨by omega, by omega, B, S⟩
        rintro z w58 hI
        try dsimp only at hI ⊢
        obtain ⟨hz, hiz, B, S⟩ := hI
        have hzr : 0 ≤ z ∧ z ≤ 6 := by omega
        refine w_seq ?_
        refine w_cut (X := Int × Nat) (fun x wq => (fun x g => (0 ≤ x ∧ x ≤ 1000) ∧ Below b w wq ∧ Sep b wq (bxO g 74 #[I r, I i, I z, I x, I 0] :: slO hopT 74 vh hs :: bxO g9 107 #[I y37, I y39, vh] :: slO intT 3 vq q :: bxO g6 107 #[I 0, I 0, .slice none 0 0] :: bxO g4 27 #[va, vl] :: curO v n c 109 :: slO asnT 121 va A :: slO linkT 78 vl L :: os)) x.1 x.2) (fun x => (fun x g => [(17, .pointer (some ⟨g, 0, none⟩)), (13, I z), (12, I ((k : Int))), (10, I r), (11, I i), (0, .pointer (some ⟨c, 0, none⟩)), (2, I kd), (4, .pointer (some ⟨g4, 0, none⟩)), (6, .pointer (some ⟨g6, 0, none⟩)), (9, .pointer (some ⟨g9, 0, none⟩)), (15, I ((remote (⟨A, L⟩ : Topo) r o).1)), (16, I ((remote (⟨A, L⟩ : Topo) r o).2))]) x.1 x.2) ?_ ?_
        · refine w_drawP [0, 1, 2, 3, 6] (.alt (.st .fin 4 (.alt (.st .fin 5 (.alt (.st .fin 7 (.alt (.st .fin 8 (.alt (.st .fin 9 (.st .fin 10 (.st .fin 11 .done))) (.st .fin 10 (.st .fin 9 (.st .fin 11 .done))))) (.st .fin 10 (.st .fin 8 (.st .fin 9 (.st .fin 11 .done)))))) (.st .fin 10 (.st .fin 7 (.st .fin 8 (.st .fin 9 (.st .fin 11 .done))))))) (.alt (.st .fin 7 (.alt (.st .fin 5 (.alt (.st .fin 8 (.alt (.st .fin 9 (.st .fin 10 (.st .fin 11 .done))) (.st .fin 10 (.st .fin 9 (.st .fin 11 .done))))) (.st .fin 10 (.st .fin 8 (.st .fin 9 (.st .fin 11 .done)))))) (.st .fin 10 (.st .fin 5 (.st .fin 8 (.st .fin 9 (.st .fin 11 .done))))))) (.st .fin 10 (.alt (.st .fin 5 (.st .fin 7 (.st .fin 8 (.st .fin 9 (.st .fin 11 .done))))) (.st .fin 7 (.st .fin 5 (.st .fin 8 (.st .fin 9 (.st .fin 11 .done)))))))))) (.alt (.st .fin 7 (.alt (.st .fin 4 (.alt (.st .fin 5 (.alt (.st .fin 8 (.alt (.st .fin 9 (.st .fin 10 (.st .fin 11 .done))) (.st .fin 10 (.st .fin 9 (.st .fin 11 .done))))) (.st .fin 10 (.st .fin 8 (.st .fin 9 (.st .fin 11 .done)))))) (.st .fin 10 (.st .fin 5 (.st .fin 8 (.st .fin 9 (.st .fin 11 .done))))))) (.st .fin 10 (.st .fin 4 (.st .fin 5 (.st .fin 8 (.st .fin 9 (.st .fin 11 .done)))))))) (.st .fin 10 (.alt (.st .fin 4 (.alt (.st .fin 5 (.st .fin 7 (.st .fin 8 (.st .fin 9 (.st .fin 11 .done))))) (.st .fin 7 (.st .fin 5 (.st .fin 8 (.st .fin 9 (.st .fin 11 .done))))))) (.st .fin 7 (.st .fin 4 (.st .fin 5 (.st .fin 8 (.st .fin 9 (.st .fin 11 .done)))))))))) mixed (by kernel_rfl) ?_
          intro w59 x60
          have B := bx Hb B x60
          have S := S.below x60
          refine p_move rfl ?_ rfl
          refine p_move rfl ?_ rfl
          refine p_move rfl ?_ rfl
          refine p_fldx fb_seg_0 rfl rfl ?_ rfl
          refine p_move rfl ?_ rfl
          refine p_done ?_
          refine t_alt ?_ (t_alt ?_ ?_)
          · refine t_bx1 S.tail.box ab_int rfl rfl ?_ rfl
            refine t_alt ?_ (t_alt ?_ ?_)
            · refine t_add rfl rfl (by omega) ?_ rfl
              refine t_alt ?_ ?_
              · have S := S.f5
                refine t_callf Try.call64 rfl (spec_l1Below 50 S (K.below B)) ?_ rfl
                rintro e w61 ⟨y110, rfl, hf110, S, x62⟩
                refine ⟨_, rfl, ?_⟩
                have B := B.trans x62
                refine t_alt ?_ ?_
                · refine t_add rfl rfl (by omega) ?_ rfl
                  refine t_alt ?_ ?_
                  · refine t_build (fun w => b_hop4 _ _ _ _ w) rfl ?_ rfl
                    refine t_alloc S z_hop rfl ?_ rfl rfl
                    intro g17 w63 x64 S
                    have B := bx Hb B x64
                    refine t_stn S sb_hop rfl rfl rfl rfl (by intro zz hu; have hu : zz ∈ ([I r, I i, I z, I ((y37 + 50) + y110), I 0] : List Value) := hu; simp only [List.mem_cons, List.not_mem_nil, or_false] at hu; rcases hu with rfl | rfl | rfl | rfl | rfl <;> rfl) ?_
                    intro w65 b66 S
                    have B := B.trans b66
                    refine t_done' ?_
                    have S := S.f8
                    have S := S.f8
                    have S := S.f3
                    have S := S.f8
                    have S := S.f8
                    have S := S.f8
                    have S := S.f8
                    have S := S.f8
                    have S := S.f8
                    refine x_cut (X := Int × Nat) (I := (fun x wq => (fun x g => (0 ≤ x ∧ x ≤ 1000) ∧ Below b w wq ∧ Sep b wq (bxO g 74 #[I r, I i, I z, I x, I 0] :: slO hopT 74 vh hs :: bxO g9 107 #[I y37, I y39, vh] :: slO intT 3 vq q :: bxO g6 107 #[I 0, I 0, .slice none 0 0] :: bxO g4 27 #[va, vl] :: curO v n c 109 :: slO asnT 121 va A :: slO linkT 78 vl L :: os)) x.1 x.2)) (F := (fun x => (fun x g => [(17, .pointer (some ⟨g, 0, none⟩)), (13, I z), (12, I ((k : Int))), (10, I r), (11, I i), (0, .pointer (some ⟨c, 0, none⟩)), (2, I kd), (4, .pointer (some ⟨g4, 0, none⟩)), (6, .pointer (some ⟨g6, 0, none⟩)), (9, .pointer (some ⟨g9, 0, none⟩)), (15, I ((remote (⟨A, L⟩ : Topo) r o).1)), (16, I ((remote (⟨A, L⟩ : Topo) r o).2))]) x.1 x.2)) ((y37 + 50) + y110, g17) ?_ (by exact ⟨rfl, rfl, rfl, rfl, rfl, rfl, rfl, rfl, rfl, rfl, rfl, rfl, trivial⟩)
                    try dsimp only
                    exact ⟨by omega, B, S⟩
                  · refine t_alloc S z_hop rfl ?_ rfl rfl
                    intro g17 w67 x68 S
                    have B := bx Hb B x68
                    refine t_build (fun w => b_hop4 _ _ _ _ w) rfl ?_ rfl
                    refine t_stn S sb_hop rfl rfl rfl rfl (by intro zz hu; have hu : zz ∈ ([I r, I i, I z, I ((y37 + 50) + y110), I 0] : List Value) := hu; simp only [List.mem_cons, List.not_mem_nil, or_false] at hu; rcases hu with rfl | rfl | rfl | rfl | rfl <;> rfl) ?_
                    intro w69 b70 S
                    have B := B.trans b70
                    refine t_done' ?_
                    have S := S.f8
                    have S := S.f8
                    have S := S.f3
                    have S := S.f8
                    have S := S.f8
                    have S := S.f8
                    have S := S.f8
                    have S := S.f8
                    have S := S.f8
                    refine x_cut (X := Int × Nat) (I := (fun x wq => (fun x g => (0 ≤ x ∧ x ≤ 1000) ∧ Below b w wq ∧ Sep b wq (bxO g 74 #[I r, I i, I z, I x, I 0] :: slO hopT 74 vh hs :: bxO g9 107 #[I y37, I y39, vh] :: slO intT 3 vq q :: bxO g6 107 #[I 0, I 0, .slice none 0 0] :: bxO g4 27 #[va, vl] :: curO v n c 109 :: slO asnT 121 va A :: slO linkT 78 vl L :: os)) x.1 x.2)) (F := (fun x => (fun x g => [(17, .pointer (some ⟨g, 0, none⟩)), (13, I z), (12, I ((k : Int))), (10, I r), (11, I i), (0, .pointer (some ⟨c, 0, none⟩)), (2, I kd), (4, .pointer (some ⟨g4, 0, none⟩)), (6, .pointer (some ⟨g6, 0, none⟩)), (9, .pointer (some ⟨g9, 0, none⟩)), (15, I ((remote (⟨A, L⟩ : Topo) r o).1)), (16, I ((remote (⟨A, L⟩ : Topo) r o).2))]) x.1 x.2)) ((y37 + 50) + y110, g17) ?_ (by exact ⟨rfl, rfl, rfl, rfl, rfl, rfl, rfl, rfl, rfl, rfl, rfl, rfl, trivial⟩)
                    try dsimp only
                    exact ⟨by omega, B, S⟩
                · refine t_alloc S z_hop rfl ?_ rfl rfl
                  intro g17 w71 x72 S
                  have B := bx Hb B x72
                  refine t_add rfl rfl (by omega) ?_ rfl
                  refine t_build (fun w => b_hop4 _ _ _ _ w) rfl ?_ rfl
                  refine t_stn S sb_hop rfl rfl rfl rfl (by intro zz hu; have hu : zz ∈ ([I r, I i, I z, I ((y37 + 50) + y110), I 0] : List Value) := hu; simp only [List.mem_cons, List.not_mem_nil, or_false] at hu; rcases hu with rfl | rfl | rfl | rfl | rfl <;> rfl) ?_
                  intro w73 b74 S
                  have B := B.trans b74
                  refine t_done' ?_
                  have S := S.f8
                  have S := S.f8
                  have S := S.f3
                  have S := S.f8
                  have S := S.f8
                  have S := S.f8
                  have S := S.f8
                  have S := S.f8
                  have S := S.f8
                  refine x_cut (X := Int × Nat) (I := (fun x wq => (fun x g => (0 ≤ x ∧ x ≤ 1000) ∧ Below b w wq ∧ Sep b wq (bxO g 74 #[I r, I i, I z, I x, I 0] :: slO hopT 74 vh hs :: bxO g9 107 #[I y37, I y39, vh] :: slO intT 3 vq q :: bxO g6 107 #[I 0, I 0, .slice none 0 0] :: bxO g4 27 #[va, vl] :: curO v n c 109 :: slO asnT 121 va A :: slO linkT 78 vl L :: os)) x.1 x.2)) (F := (fun x => (fun x g => [(17, .pointer (some ⟨g, 0, none⟩)), (13, I z), (12, I ((k : Int))), (10, I r), (11, I i), (0, .pointer (some ⟨c, 0, none⟩)), (2, I kd), (4, .pointer (some ⟨g4, 0, none⟩)), (6, .pointer (some ⟨g6, 0, none⟩)), (9, .pointer (some ⟨g9, 0, none⟩)), (15, I ((remote (⟨A, L⟩ : Topo) r o).1)), (16, I ((remote (⟨A, L⟩ : Topo) r o).2))]) x.1 x.2)) ((y37 + 50) + y110, g17) ?_ (by exact ⟨rfl, rfl, rfl, rfl, rfl, rfl, rfl, rfl, rfl, rfl, rfl, rfl, trivial⟩)
                  try dsimp only
                  exact ⟨by omega, B, S⟩
              · refine t_alloc S z_hop rfl ?_ rfl rfl
                intro g17 w75 x76 S
                have B := bx Hb B x76
                have S := S.f6
                refine t_callf Try.call64 rfl (spec_l1Below 50 S (K.below B)) ?_ rfl
                rintro e w77 ⟨y110, rfl, hf110, S, x78⟩
                refine ⟨_, rfl, ?_⟩
                have B := B.trans x78
                refine t_add rfl rfl (by omega) ?_ rfl
                refine t_build (fun w => b_hop4 _ _ _ _ w) rfl ?_ rfl
                have S := S.f1
                refine t_stn S sb_hop rfl rfl rfl rfl (by intro zz hu; have hu : zz ∈ ([I r, I i, I z, I ((y37 + 50) + y110), I 0] : List Value) := hu; simp only [List.mem_cons, List.not_mem_nil, or_false] at hu; rcases hu with rfl | rfl | rfl | rfl | rfl <;> rfl) ?_
                intro w79 b80 S
                have B := B.trans b80
                refine t_done' ?_
                have S := S.f8
                have S := S.f8
                have S := S.f3
                have S := S.f8
                have S := S.f8
                have S := S.f8
                have S := S.f8
                have S := S.f8
                have S := S.f8
                refine x_cut (X := Int × Nat) (I := (fun x wq => (fun x g => (0 ≤ x ∧ x ≤ 1000) ∧ Below b w wq ∧ Sep b wq (bxO g 74 #[I r, I i, I z, I x, I 0] :: slO hopT 74 vh hs :: bxO g9 107 #[I y37, I y39, vh] :: slO intT 3 vq q :: bxO g6 107 #[I 0, I 0, .slice none 0 0] :: bxO g4 27 #[va, vl] :: curO v n c 109 :: slO asnT 121 va A :: slO linkT 78 vl L :: os)) x.1 x.2)) (F := (fun x => (fun x g => [(17, .pointer (some ⟨g, 0, none⟩)), (13, I z), (12, I ((k : Int))), (10, I r), (11, I i), (0, .pointer (some ⟨c, 0, none⟩)), (2, I kd), (4, .pointer (some ⟨g4, 0, none⟩)), (6, .pointer (some ⟨g6, 0, none⟩)), (9, .pointer (some ⟨g9, 0, none⟩)), (15, I ((remote (⟨A, L⟩ : Topo) r o).1)), (16, I ((remote (⟨A, L⟩ : Topo) r o).2))]) x.1 x.2)) ((y37 + 50) + y110, g17) ?_ (by exact ⟨rfl, rfl, rfl, rfl, rfl, rfl, rfl, rfl, rfl, rfl, rfl, rfl, trivial⟩)
                try dsimp only
                exact ⟨by omega, B, S⟩
            · have S := S.f5
              refine t_callf Try.call64 rfl (spec_l1Below 50 S (K.below B)) ?_ rfl
              rintro e w81 ⟨y110, rfl, hf110, S, x82⟩
              refine ⟨_, rfl, ?_⟩
              have B := B.trans x82
              refine t_alt ?_ ?_
              · refine t_add rfl rfl (by omega) ?_ rfl
                refine t_alt ?_ ?_
                · refine t_add rfl rfl (by omega) ?_ rfl
                  refine t_alt ?_ ?_
                  · refine t_build (fun w => b_hop4 _ _ _ _ w) rfl ?_ rfl
                    refine t_alloc S z_hop rfl ?_ rfl rfl
                    intro g17 w83 x84 S
                    have B := bx Hb B x84
                    refine t_stn S sb_hop rfl rfl rfl rfl (by intro zz hu; have hu : zz ∈ ([I r, I i, I z, I ((y37 + 50) + y110), I 0] : List Value) := hu; simp only [List.mem_cons, List.not_mem_nil, or_false] at hu; rcases hu with rfl | rfl | rfl | rfl | rfl <;> rfl) ?_
                    intro w85 b86 S
                    have B := B.trans b86
                    refine t_done' ?_
                    have S := S.f8
                    have S := S.f8
                    have S := S.f3
                    have S := S.f8
                    have S := S.f8
                    have S := S.f8
                    have S := S.f8
                    have S := S.f8
                    have S := S.f8
                    refine x_cut (X := Int × Nat) (I := (fun x wq => (fun x g => (0 ≤ x ∧ x ≤ 1000) ∧ Below b w wq ∧ Sep b wq (bxO g 74 #[I r, I i, I z, I x, I 0] :: slO hopT 74 vh hs :: bxO g9 107 #[I y37, I y39, vh] :: slO intT 3 vq q :: bxO g6 107 #[I 0, I 0, .slice none 0 0] :: bxO g4 27 #[va, vl] :: curO v n c 109 :: slO asnT 121 va A :: slO linkT 78 vl L :: os)) x.1 x.2)) (F := (fun x => (fun x g => [(17, .pointer (some ⟨g, 0, none⟩)), (13, I z), (12, I ((k : Int))), (10, I r), (11, I i), (0, .pointer (some ⟨c, 0, none⟩)), (2, I kd), (4, .pointer (some ⟨g4, 0, none⟩)), (6, .pointer (some ⟨g6, 0, none⟩)), (9, .pointer (some ⟨g9, 0, none⟩)), (15, I ((remote (⟨A, L⟩ : Topo) r o).1)), (16, I ((remote (⟨A, L⟩ : Topo) r o).2))]) x.1 x.2)) ((y37 + 50) + y110, g17) ?_ (by exact ⟨rfl, rfl, rfl, rfl, rfl, rfl, rfl, rfl, rfl, rfl, rfl, rfl, trivial⟩)
                    try dsimp only
                    exact ⟨by omega, B, S⟩
                  · refine t_alloc S z_hop rfl ?_ rfl rfl
                    intro g17 w87 x88 S
                    have B := bx Hb B x88
                    refine t_build (fun w => b_hop4 _ _ _ _ w) rfl ?_ rfl
                    refine t_stn S sb_hop rfl rfl rfl rfl (by intro zz hu; have hu : zz ∈ ([I r, I i, I z, I ((y37 + 50) + y110), I 0] : List Value) := hu; simp only [List.mem_cons, List.not_mem_nil, or_false] at hu; rcases hu with rfl | rfl | rfl | rfl | rfl <;> rfl) ?_
                    intro w89 b90 S
                    have B := B.trans b90
                    refine t_done' ?_
                    have S := S.f8
                    have S := S.f8
                    have S := S.f3
                    have S := S.f8
                    have S := S.f8
                    have S := S.f8
                    have S := S.f8
                    have S := S.f8
                    have S := S.f8
                    refine x_cut (X := Int × Nat) (I := (fun x wq => (fun x g => (0 ≤ x ∧ x ≤ 1000) ∧ Below b w wq ∧ Sep b wq (bxO g 74 #[I r, I i, I z, I x, I 0] :: slO hopT 74 vh hs :: bxO g9 107 #[I y37, I y39, vh] :: slO intT 3 vq q :: bxO g6 107 #[I 0, I 0, .slice none 0 0] :: bxO g4 27 #[va, vl] :: curO v n c 109 :: slO asnT 121 va A :: slO linkT 78 vl L :: os)) x.1 x.2)) (F := (fun x => (fun x g => [(17, .pointer (some ⟨g, 0, none⟩)), (13, I z), (12, I ((k : Int))), (10, I r), (11, I i), (0, .pointer (some ⟨c, 0, none⟩)), (2, I kd), (4, .pointer (some ⟨g4, 0, none⟩)), (6, .pointer (some ⟨g6, 0, none⟩)), (9, .pointer (some ⟨g9, 0, none⟩)), (15, I ((remote (⟨A, L⟩ : Topo) r o).1)), (16, I ((remote (⟨A, L⟩ : Topo) r o).2))]) x.1 x.2)) ((y37 + 50) + y110, g17) ?_ (by exact ⟨rfl, rfl, rfl, rfl, rfl, rfl, rfl, rfl, rfl, rfl, rfl, rfl, trivial⟩)
                    try dsimp only
                    exact ⟨by omega, B, S⟩
                · refine t_alloc S z_hop rfl ?_ rfl rfl
                  intro g17 w91 x92 S
                  have B := bx Hb B x92
                  refine t_add rfl rfl (by omega) ?_ rfl
                  refine t_build (fun w => b_hop4 _ _ _ _ w) rfl ?_ rfl
                  refine t_stn S sb_hop rfl rfl rfl rfl (by intro zz hu; have hu : zz ∈ ([I r, I i, I z, I ((y37 + 50) + y110), I 0] : List Value) := hu; simp only [List.mem_cons, List.not_mem_nil, or_false] at hu; rcases hu with rfl | rfl | rfl | rfl | rfl <;> rfl) ?_
                  intro w93 b94 S
                  have B := B.trans b94
                  refine t_done' ?_
                  have S := S.f8
                  have S := S.f8
                  have S := S.f3
                  have S := S.f8
                  have S := S.f8
                  have S := S.f8
                  have S := S.f8
                  have S := S.f8
                  have S := S.f8
                  refine x_cut (X := Int × Nat) (I := (fun x wq => (fun x g => (0 ≤ x ∧ x ≤ 1000) ∧ Below b w wq ∧ Sep b wq (bxO g 74 #[I r, I i, I z, I x, I 0] :: slO hopT 74 vh hs :: bxO g9 107 #[I y37, I y39, vh] :: slO intT 3 vq q :: bxO g6 107 #[I 0, I 0, .slice none 0 0] :: bxO g4 27 #[va, vl] :: curO v n c 109 :: slO asnT 121 va A :: slO linkT 78 vl L :: os)) x.1 x.2)) (F := (fun x => (fun x g => [(17, .pointer (some ⟨g, 0, none⟩)), (13, I z), (12, I ((k : Int))), (10, I r), (11, I i), (0, .pointer (some ⟨c, 0, none⟩)), (2, I kd), (4, .pointer (some ⟨g4, 0, none⟩)), (6, .pointer (some ⟨g6, 0, none⟩)), (9, .pointer (some ⟨g9, 0, none⟩)), (15, I ((remote (⟨A, L⟩ : Topo) r o).1)), (16, I ((remote (⟨A, L⟩ : Topo) r o).2))]) x.1 x.2)) ((y37 + 50) + y110, g17) ?_ (by exact ⟨rfl, rfl, rfl, rfl, rfl, rfl, rfl, rfl, rfl, rfl, rfl, rfl, trivial⟩)
                  try dsimp only
                  exact ⟨by omega, B, S⟩
              · refine t_alloc S z_hop rfl ?_ rfl rfl
                intro g17 w95 x96 S
                have B := bx Hb B x96
                refine t_add rfl rfl (by omega) ?_ rfl
                refine t_add rfl rfl (by omega) ?_ rfl
                refine t_build (fun w => b_hop4 _ _ _ _ w) rfl ?_ rfl
                refine t_stn S sb_hop rfl rfl rfl rfl (by intro zz hu; have hu : zz ∈ ([I r, I i, I z, I ((y37 + 50) + y110), I 0] : List Value) := hu; simp only [List.mem_cons, List.not_mem_nil, or_false] at hu; rcases hu with rfl | rfl | rfl | rfl | rfl <;> rfl) ?_
                intro w97 b98 S
                have B := B.trans b98
                refine t_done' ?_
                have S := S.f8
                have S := S.f8
                have S := S.f3
                have S := S.f8
                have S := S.f8
                have S := S.f8
                have S := S.f8
                have S := S.f8
                have S := S.f8
                refine x_cut (X := Int × Nat) (I := (fun x wq => (fun x g => (0 ≤ x ∧ x ≤ 1000) ∧ Below b w wq ∧ Sep b wq (bxO g 74 #[I r, I i, I z, I x, I 0] :: slO hopT 74 vh hs :: bxO g9 107 #[I y37, I y39, vh] :: slO intT 3 vq q :: bxO g6 107 #[I 0, I 0, .slice none 0 0] :: bxO g4 27 #[va, vl] :: curO v n c 109 :: slO asnT 121 va A :: slO linkT 78 vl L :: os)) x.1 x.2)) (F := (fun x => (fun x g => [(17, .pointer (some ⟨g, 0, none⟩)), (13, I z), (12, I ((k : Int))), (10, I r), (11, I i), (0, .pointer (some ⟨c, 0, none⟩)), (2, I kd), (4, .pointer (some ⟨g4, 0, none⟩)), (6, .pointer (some ⟨g6, 0, none⟩)), (9, .pointer (some ⟨g9, 0, none⟩)), (15, I ((remote (⟨A, L⟩ : Topo) r o).1)), (16, I ((remote (⟨A, L⟩ : Topo) r o).2))]) x.1 x.2)) ((y37 + 50) + y110, g17) ?_ (by exact ⟨rfl, rfl, rfl, rfl, rfl, rfl, rfl, rfl, rfl, rfl, rfl, rfl, trivial⟩)
                try dsimp only
                exact ⟨by omega, B, S⟩
            · refine t_alloc S z_hop rfl ?_ rfl rfl
              intro g17 w99 x100 S
              have B := bx Hb B x100
              refine t_alt ?_ ?_
              · refine t_add rfl rfl (by omega) ?_ rfl
                have S := S.f6
                refine t_callf Try.call64 rfl (spec_l1Below 50 S (K.below B)) ?_ rfl
                rintro e w101 ⟨y110, rfl, hf110, S, x102⟩
                refine ⟨_, rfl, ?_⟩
                have B := B.trans x102
                refine t_add rfl rfl (by omega) ?_ rfl
                refine t_build (fun w => b_hop4 _ _ _ _ w) rfl ?_ rfl
                have S := S.f1
                refine t_stn S sb_hop rfl rfl rfl rfl (by intro zz hu; have hu : zz ∈ ([I r, I i, I z, I ((y37 + 50) + y110), I 0] : List Value) := hu; simp only [List.mem_cons, List.not_mem_nil, or_false] at hu; rcases hu with rfl | rfl | rfl | rfl | rfl <;> rfl) ?_
                intro w103 b104 S
                have B := B.trans b104
                refine t_done' ?_
                have S := S.f8
                have S := S.f8
                have S := S.f3
                have S := S.f8
                have S := S.f8
                have S := S.f8
                have S := S.f8
                have S := S.f8
                have S := S.f8
                refine x_cut (X := Int × Nat) (I := (fun x wq => (fun x g => (0 ≤ x ∧ x ≤ 1000) ∧ Below b w wq ∧ Sep b wq (bxO g 74 #[I r, I i, I z, I x, I 0] :: slO hopT 74 vh hs :: bxO g9 107 #[I y37, I y39, vh] :: slO intT 3 vq q :: bxO g6 107 #[I 0, I 0, .slice none 0 0] :: bxO g4 27 #[va, vl] :: curO v n c 109 :: slO asnT 121 va A :: slO linkT 78 vl L :: os)) x.1 x.2)) (F := (fun x => (fun x g => [(17, .pointer (some ⟨g, 0, none⟩)), (13, I z), (12, I ((k : Int))), (10, I r), (11, I i), (0, .pointer (some ⟨c, 0, none⟩)), (2, I kd), (4, .pointer (some ⟨g4, 0, none⟩)), (6, .pointer (some ⟨g6, 0, none⟩)), (9, .pointer (some ⟨g9, 0, none⟩)), (15, I ((remote (⟨A, L⟩ : Topo) r o).1)), (16, I ((remote (⟨A, L⟩ : Topo) r o).2))]) x.1 x.2)) ((y37 + 50) + y110, g17) ?_ (by exact ⟨rfl, rfl, rfl, rfl, rfl, rfl, rfl, rfl, rfl, rfl, rfl, rfl, trivial⟩)
                try dsimp only
                exact ⟨by omega, B, S⟩
              · have S := S.f6
                refine t_callf Try.call64 rfl (spec_l1Below 50 S (K.below B)) ?_ rfl
                rintro e w105 ⟨y110, rfl, hf110, S, x106⟩
                refine ⟨_, rfl, ?_⟩
                have B := B.trans x106
                refine t_add rfl rfl (by omega) ?_ rfl
                refine t_add rfl rfl (by omega) ?_ rfl
                refine t_build (fun w => b_hop4 _ _ _ _ w) rfl ?_ rfl
                have S := S.f1
                refine t_stn S sb_hop rfl rfl rfl rfl (by intro zz hu; have hu : zz ∈ ([I r, I i, I z, I ((y37 + 50) + y110), I 0] : List Value) := hu; simp only [List.mem_cons, List.not_mem_nil, or_false] at hu; rcases hu with rfl | rfl | rfl | rfl | rfl <;> rfl) ?_
                intro w107 b108 S
                have B := B.trans b108
                refine t_done' ?_
                have S := S.f8
                have S := S.f8
                have S := S.f3
                have S := S.f8
                have S := S.f8
                have S := S.f8
                have S := S.f8
                have S := S.f8
                have S := S.f8
                refine x_cut (X := Int × Nat) (I := (fun x wq => (fun x g => (0 ≤ x ∧ x ≤ 1000) ∧ Below b w wq ∧ Sep b wq (bxO g 74 #[I r, I i, I z, I x, I 0] :: slO hopT 74 vh hs :: bxO g9 107 #[I y37, I y39, vh] :: slO intT 3 vq q :: bxO g6 107 #[I 0, I 0, .slice none 0 0] :: bxO g4 27 #[va, vl] :: curO v n c 109 :: slO asnT 121 va A :: slO linkT 78 vl L :: os)) x.1 x.2)) (F := (fun x => (fun x g => [(17, .pointer (some ⟨g, 0, none⟩)), (13, I z), (12, I ((k : Int))), (10, I r), (11, I i), (0, .pointer (some ⟨c, 0, none⟩)), (2, I kd), (4, .pointer (some ⟨g4, 0, none⟩)), (6, .pointer (some ⟨g6, 0, none⟩)), (9, .pointer (some ⟨g9, 0, none⟩)), (15, I ((remote (⟨A, L⟩ : Topo) r o).1)), (16, I ((remote (⟨A, L⟩ : Topo) r o).2))]) x.1 x.2)) ((y37 + 50) + y110, g17) ?_ (by exact ⟨rfl, rfl, rfl, rfl, rfl, rfl, rfl, rfl, rfl, rfl, rfl, rfl, trivial⟩)
                try dsimp only
                exact ⟨by omega, B, S⟩
          · have S := S.f5
            refine t_callf Try.call64 rfl (spec_l1Below 50 S (K.below B)) ?_ rfl
            rintro e w109 ⟨y110, rfl, hf110, S, x110⟩
            refine ⟨_, rfl, ?_⟩
            have B := B.trans x110
            refine t_alt ?_ ?_
            · refine t_bx1 S.tail.tail.box ab_int rfl rfl ?_ rfl
              refine t_alt ?_ ?_
              · refine t_add rfl rfl (by omega) ?_ rfl
                refine t_alt ?_ ?_
                · refine t_add rfl rfl (by omega) ?_ rfl
                  refine t_alt ?_ ?_
                  · refine t_build (fun w => b_hop4 _ _ _ _ w) rfl ?_ rfl
                    refine t_alloc S z_hop rfl ?_ rfl rfl
                    intro g17 w111 x112 S
                    have B := bx Hb B x112
                    refine t_stn S sb_hop rfl rfl rfl rfl (by intro zz hu; have hu : zz ∈ ([I r, I i, I z, I ((y37 + 50) + y110), I 0] : List Value) := hu; simp only [List.mem_cons, List.not_mem_nil, or_false] at hu; rcases hu with rfl | rfl | rfl | rfl | rfl <;> rfl) ?_
                    intro w113 b114 S
                    have B := B.trans b114
                    refine t_done' ?_
                    have S := S.f8
                    have S := S.f8
                    have S := S.f3
                    have S := S.f8
                    have S := S.f8
                    have S := S.f8
                    have S := S.f8
                    have S := S.f8
                    have S := S.f8
                    refine x_cut (X := Int × Nat) (I := (fun x wq => (fun x g => (0 ≤ x ∧ x ≤ 1000) ∧ Below b w wq ∧ Sep b wq (bxO g 74 #[I r, I i, I z, I x, I 0] :: slO hopT 74 vh hs :: bxO g9 107 #[I y37, I y39, vh] :: slO intT 3 vq q :: bxO g6 107 #[I 0, I 0, .slice none 0 0] :: bxO g4 27 #[va, vl] :: curO v n c 109 :: slO asnT 121 va A :: slO linkT 78 vl L :: os)) x.1 x.2)) (F := (fun x => (fun x g => [(17, .pointer (some ⟨g, 0, none⟩)), (13, I z), (12, I ((k : Int))), (10, I r), (11, I i), (0, .pointer (some ⟨c, 0, none⟩)), (2, I kd), (4, .pointer (some ⟨g4, 0, none⟩)), (6, .pointer (some ⟨g6, 0, none⟩)), (9, .pointer (some ⟨g9, 0, none⟩)), (15, I ((remote (⟨A, L⟩ : Topo) r o).1)), (16, I ((remote (⟨A, L⟩ : Topo) r o).2))]) x.1 x.2)) ((y37 + 50) + y110, g17) ?_ (by exact ⟨rfl, rfl, rfl, rfl, rfl, rfl, rfl, rfl, rfl, rfl, rfl, rfl, trivial⟩)
                    try dsimp only
                    exact ⟨by omega, B, S⟩
                  · refine t_alloc S z_hop rfl ?_ rfl rfl
                    intro g17 w115 x116 S
                    have B := bx Hb B x116
                    refine t_build (fun w => b_hop4 _ _ _ _ w) rfl ?_ rfl
                    refine t_stn S sb_hop rfl rfl rfl rfl (by intro zz hu; have hu : zz ∈ ([I r, I i, I z, I ((y37 + 50) + y110), I 0] : List Value) := hu; simp only [List.mem_cons, List.not_mem_nil, or_false] at hu; rcases hu with rfl | rfl | rfl | rfl | rfl <;> rfl) ?_
                    intro w117 b118 S
                    have B := B.trans b118
                    refine t_done' ?_
                    have S := S.f8
                    have S := S.f8
                    have S := S.f3
                    have S := S.f8
                    have S := S.f8
                    have S := S.f8
                    have S := S.f8
                    have S := S.f8
                    have S := S.f8
                    refine x_cut (X := Int × Nat) (I := (fun x wq => (fun x g => (0 ≤ x ∧ x ≤ 1000) ∧ Below b w wq ∧ Sep b wq (bxO g 74 #[I r, I i, I z, I x, I 0] :: slO hopT 74 vh hs :: bxO g9 107 #[I y37, I y39, vh] :: slO intT 3 vq q :: bxO g6 107 #[I 0, I 0, .slice none 0 0] :: bxO g4 27 #[va, vl] :: curO v n c 109 :: slO asnT 121 va A :: slO linkT 78 vl L :: os)) x.1 x.2)) (F := (fun x => (fun x g => [(17, .pointer (some ⟨g, 0, none⟩)), (13, I z), (12, I ((k : Int))), (10, I r), (11, I i), (0, .pointer (some ⟨c, 0, none⟩)), (2, I kd), (4, .pointer (some ⟨g4, 0, none⟩)), (6, .pointer (some ⟨g6, 0, none⟩)), (9, .pointer (some ⟨g9, 0, none⟩)), (15, I ((remote (⟨A, L⟩ : Topo) r o).1)), (16, I ((remote (⟨A, L⟩ : Topo) r o).2))]) x.1 x.2)) ((y37 + 50) + y110, g17) ?_ (by exact ⟨rfl, rfl, rfl, rfl, rfl, rfl, rfl, rfl, rfl, rfl, rfl, rfl, trivial⟩)
                    try dsimp only
                    exact ⟨by omega, B, S⟩
                · refine t_alloc S z_hop rfl ?_ rfl rfl
                  intro g17 w119 x120 S
                  have B := bx Hb B x120
                  refine t_add rfl rfl (by omega) ?_ rfl
                  refine t_build (fun w => b_hop4 _ _ _ _ w) rfl ?_ rfl
                  refine t_stn S sb_hop rfl rfl rfl rfl (by intro zz hu; have hu : zz ∈ ([I r, I i, I z, I ((y37 + 50) + y110), I 0] : List Value) := hu; simp only [List.mem_cons, List.not_mem_nil, or_false] at hu; rcases hu with rfl | rfl | rfl | rfl | rfl <;> rfl) ?_
                  intro w121 b122 S
                  have B := B.trans b122
                  refine t_done' ?_
                  have S := S.f8
                  have S := S.f8
                  have S := S.f3
                  have S := S.f8
                  have S := S.f8
                  have S := S.f8
                  have S := S.f8
                  have S := S.f8
                  have S := S.f8
                  refine x_cut (X := Int × Nat) (I := (fun x wq => (fun x g => (0 ≤ x ∧ x ≤ 1000) ∧ Below b w wq ∧ Sep b wq (bxO g 74 #[I r, I i, I z, I x, I 0] :: slO hopT 74 vh hs :: bxO g9 107 #[I y37, I y39, vh] :: slO intT 3 vq q :: bxO g6 107 #[I 0, I 0, .slice none 0 0] :: bxO g4 27 #[va, vl] :: curO v n c 109 :: slO asnT 121 va A :: slO linkT 78 vl L :: os)) x.1 x.2)) (F := (fun x => (fun x g => [(17, .pointer (some ⟨g, 0, none⟩)), (13, I z), (12, I ((k : Int))), (10, I r), (11, I i), (0, .pointer (some ⟨c, 0, none⟩)), (2, I kd), (4, .pointer (some ⟨g4, 0, none⟩)), (6, .pointer (some ⟨g6, 0, none⟩)), (9, .pointer (some ⟨g9, 0, none⟩)), (15, I ((remote (⟨A, L⟩ : Topo) r o).1)), (16, I ((remote (⟨A, L⟩ : Topo) r o).2))]) x.1 x.2)) ((y37 + 50) + y110, g17) ?_ (by exact ⟨rfl, rfl, rfl, rfl, rfl, rfl, rfl, rfl, rfl, rfl, rfl, rfl, trivial⟩)
                  try dsimp only
                  exact ⟨by omega, B, S⟩
              · refine t_alloc S z_hop rfl ?_ rfl rfl
                intro g17 w123 x124 S
                have B := bx Hb B x124
                refine t_add rfl rfl (by omega) ?_ rfl
                refine t_add rfl rfl (by omega) ?_ rfl
                refine t_build (fun w => b_hop4 _ _ _ _ w) rfl ?_ rfl
                refine t_stn S sb_hop rfl rfl rfl rfl (by intro zz hu; have hu : zz ∈ ([I r, I i, I z, I ((y37 + 50) + y110), I 0] : List Value) := hu; simp only [List.mem_cons, List.not_mem_nil, or_false] at hu; rcases hu with rfl | rfl | rfl | rfl | rfl <;> rfl) ?_
                intro w125 b126 S
                have B := B.trans b126
                refine t_done' ?_
                have S := S.f8
                have S := S.f8
                have S := S.f3
                have S := S.f8
                have S := S.f8
                have S := S.f8
                have S := S.f8
                have S := S.f8
                have S := S.f8
                refine x_cut (X := Int × Nat) (I := (fun x wq => (fun x g => (0 ≤ x ∧ x ≤ 1000) ∧ Below b w wq ∧ Sep b wq (bxO g 74 #[I r, I i, I z, I x, I 0] :: slO hopT 74 vh hs :: bxO g9 107 #[I y37, I y39, vh] :: slO intT 3 vq q :: bxO g6 107 #[I 0, I 0, .slice none 0 0] :: bxO g4 27 #[va, vl] :: curO v n c 109 :: slO asnT 121 va A :: slO linkT 78 vl L :: os)) x.1 x.2)) (F := (fun x => (fun x g => [(17, .pointer (some ⟨g, 0, none⟩)), (13, I z), (12, I ((k : Int))), (10, I r), (11, I i), (0, .pointer (some ⟨c, 0, none⟩)), (2, I kd), (4, .pointer (some ⟨g4, 0, none⟩)), (6, .pointer (some ⟨g6, 0, none⟩)), (9, .pointer (some ⟨g9, 0, none⟩)), (15, I ((remote (⟨A, L⟩ : Topo) r o).1)), (16, I ((remote (⟨A, L⟩ : Topo) r o).2))]) x.1 x.2)) ((y37 + 50) + y110, g17) ?_ (by exact ⟨rfl, rfl, rfl, rfl, rfl, rfl, rfl, rfl, rfl, rfl, rfl, rfl, trivial⟩)
                try dsimp only
                exact ⟨by omega, B, S⟩
            · refine t_alloc S z_hop rfl ?_ rfl rfl
              intro g17 w127 x128 S
              have B := bx Hb B x128
              refine t_bx1 S.tail.tail.tail.box ab_int rfl rfl ?_ rfl
              refine t_add rfl rfl (by omega) ?_ rfl
              refine t_add rfl rfl (by omega) ?_ rfl
              refine t_build (fun w => b_hop4 _ _ _ _ w) rfl ?_ rfl
              refine t_stn S sb_hop rfl rfl rfl rfl (by intro zz hu; have hu : zz ∈ ([I r, I i, I z, I ((y37 + 50) + y110), I 0] : List Value) := hu; simp only [List.mem_cons, List.not_mem_nil, or_false] at hu; rcases hu with rfl | rfl | rfl | rfl | rfl <;> rfl) ?_
              intro w129 b130 S
              have B := B.trans b130
              refine t_done' ?_
              have S := S.f8
              have S := S.f8
              have S := S.f3
              have S := S.f8
              have S := S.f8
              have S := S.f8
              have S := S.f8
              have S := S.f8
              have S := S.f8
              refine x_cut (X := Int × Nat) (I := (fun x wq => (fun x g => (0 ≤ x ∧ x ≤ 1000) ∧ Below b w wq ∧ Sep b wq (bxO g 74 #[I r, I i, I z, I x, I 0] :: slO hopT 74 vh hs :: bxO g9 107 #[I y37, I y39, vh] :: slO intT 3 vq q :: bxO g6 107 #[I 0, I 0, .slice none 0 0] :: bxO g4 27 #[va, vl] :: curO v n c 109 :: slO asnT 121 va A :: slO linkT 78 vl L :: os)) x.1 x.2)) (F := (fun x => (fun x g => [(17, .pointer (some ⟨g, 0, none⟩)), (13, I z), (12, I ((k : Int))), (10, I r), (11, I i), (0, .pointer (some ⟨c, 0, none⟩)), (2, I kd), (4, .pointer (some ⟨g4, 0, none⟩)), (6, .pointer (some ⟨g6, 0, none⟩)), (9, .pointer (some ⟨g9, 0, none⟩)), (15, I ((remote (⟨A, L⟩ : Topo) r o).1)), (16, I ((remote (⟨A, L⟩ : Topo) r o).2))]) x.1 x.2)) ((y37 + 50) + y110, g17) ?_ (by exact ⟨rfl, rfl, rfl, rfl, rfl, rfl, rfl, rfl, rfl, rfl, rfl, rfl, trivial⟩)
              try dsimp only
              exact ⟨by omega, B, S⟩
          · refine t_alloc S z_hop rfl ?_ rfl rfl
            intro g17 w131 x132 S
            have B := bx Hb B x132
            refine t_alt ?_ ?_
            · refine t_bx1 S.tail.tail.box ab_int rfl rfl ?_ rfl
              refine t_alt ?_ ?_
              · refine t_add rfl rfl (by omega) ?_ rfl
                have S := S.f6
                refine t_callf Try.call64 rfl (spec_l1Below 50 S (K.below B)) ?_ rfl
                rintro e w133 ⟨y110, rfl, hf110, S, x134⟩
                refine ⟨_, rfl, ?_⟩
                have B := B.trans x134
                refine t_add rfl rfl (by omega) ?_ rfl
                refine t_build (fun w => b_hop4 _ _ _ _ w) rfl ?_ rfl
                have S := S.f1
                refine t_stn S sb_hop rfl rfl rfl rfl (by intro zz hu; have hu : zz ∈ ([I r, I i, I z, I ((y37 + 50) + y110), I 0] : List Value) := hu; simp only [List.mem_cons, List.not_mem_nil, or_false] at hu; rcases hu with rfl | rfl | rfl | rfl | rfl <;> rfl) ?_
                intro w135 b136 S
                have B := B.trans b136
                refine t_done' ?_
                have S := S.f8
                have S := S.f8
                have S := S.f3
                have S := S.f8
                have S := S.f8
                have S := S.f8
                have S := S.f8
                have S := S.f8
                have S := S.f8
                refine x_cut (X := Int × Nat) (I := (fun x wq => (fun x g => (0 ≤ x ∧ x ≤ 1000) ∧ Below b w wq ∧ Sep b wq (bxO g 74 #[I r, I i, I z, I x, I 0] :: slO hopT 74 vh hs :: bxO g9 107 #[I y37, I y39, vh] :: slO intT 3 vq q :: bxO g6 107 #[I 0, I 0, .slice none 0 0] :: bxO g4 27 #[va, vl] :: curO v n c 109 :: slO asnT 121 va A :: slO linkT 78 vl L :: os)) x.1 x.2)) (F := (fun x => (fun x g => [(17, .pointer (some ⟨g, 0, none⟩)), (13, I z), (12, I ((k : Int))), (10, I r), (11, I i), (0, .pointer (some ⟨c, 0, none⟩)), (2, I kd), (4, .pointer (some ⟨g4, 0, none⟩)), (6, .pointer (some ⟨g6, 0, none⟩)), (9, .pointer (some ⟨g9, 0, none⟩)), (15, I ((remote (⟨A, L⟩ : Topo) r o).1)), (16, I ((remote (⟨A, L⟩ : Topo) r o).2))]) x.1 x.2)) ((y37 + 50) + y110, g17) ?_ (by exact ⟨rfl, rfl, rfl, rfl, rfl, rfl, rfl, rfl, rfl, rfl, rfl, rfl, trivial⟩)
                try dsimp only
                exact ⟨by omega, B, S⟩
              · have S := S.f6
                refine t_callf Try.call64 rfl (spec_l1Below 50 S (K.below B)) ?_ rfl
                rintro e w137 ⟨y110, rfl, hf110, S, x138⟩
                refine ⟨_, rfl, ?_⟩
                have B := B.trans x138
                refine t_add rfl rfl (by omega) ?_ rfl
                refine t_add rfl rfl (by omega) ?_ rfl
                refine t_build (fun w => b_hop4 _ _ _ _ w) rfl ?_ rfl
                have S := S.f1
                refine t_stn S sb_hop rfl rfl rfl rfl (by intro zz hu; have hu : zz ∈ ([I r, I i, I z, I ((y37 + 50) + y110), I 0] : List Value) := hu; simp only [List.mem_cons, List.not_mem_nil, or_false] at hu; rcases hu with rfl | rfl | rfl | rfl | rfl <;> rfl) ?_
                intro w139 b140 S
                have B := B.trans b140
                refine t_done' ?_
                have S := S.f8
                have S := S.f8
                have S := S.f3
                have S := S.f8
                have S := S.f8
                have S := S.f8
                have S := S.f8
                have S := S.f8
                have S := S.f8
                refine x_cut (X := Int × Nat) (I := (fun x wq => (fun x g => (0 ≤ x ∧ x ≤ 1000) ∧ Below b w wq ∧ Sep b wq (bxO g 74 #[I r, I i, I z, I x, I 0] :: slO hopT 74 vh hs :: bxO g9 107 #[I y37, I y39, vh] :: slO intT 3 vq q :: bxO g6 107 #[I 0, I 0, .slice none 0 0] :: bxO g4 27 #[va, vl] :: curO v n c 109 :: slO asnT 121 va A :: slO linkT 78 vl L :: os)) x.1 x.2)) (F := (fun x => (fun x g => [(17, .pointer (some ⟨g, 0, none⟩)), (13, I z), (12, I ((k : Int))), (10, I r), (11, I i), (0, .pointer (some ⟨c, 0, none⟩)), (2, I kd), (4, .pointer (some ⟨g4, 0, none⟩)), (6, .pointer (some ⟨g6, 0, none⟩)), (9, .pointer (some ⟨g9, 0, none⟩)), (15, I ((remote (⟨A, L⟩ : Topo) r o).1)), (16, I ((remote (⟨A, L⟩ : Topo) r o).2))]) x.1 x.2)) ((y37 + 50) + y110, g17) ?_ (by exact ⟨rfl, rfl, rfl, rfl, rfl, rfl, rfl, rfl, rfl, rfl, rfl, rfl, trivial⟩)
                try dsimp only
                exact ⟨by omega, B, S⟩
            · have S := S.f6
              refine t_callf Try.call64 rfl (spec_l1Below 50 S (K.below B)) ?_ rfl
              rintro e w141 ⟨y110, rfl, hf110, S, x142⟩
              refine ⟨_, rfl, ?_⟩
              have B := B.trans x142
              refine t_bx1 S.tail.tail.tail.box ab_int rfl rfl ?_ rfl
              refine t_add rfl rfl (by omega) ?_ rfl
              refine t_add rfl rfl (by omega) ?_ rfl
              refine t_build (fun w => b_hop4 _ _ _ _ w) rfl ?_ rfl
              have S := S.f1
              refine t_stn S sb_hop rfl rfl rfl rfl (by intro zz hu; have hu : zz ∈ ([I r, I i, I z, I ((y37 + 50) + y110), I 0] : List Value) := hu; simp only [List.mem_cons, List.not_mem_nil, or_false] at hu; rcases hu with rfl | rfl | rfl | rfl | rfl <;> rfl) ?_
              intro w143 b144 S
              have B := B.trans b144
              refine t_done' ?_
              have S := S.f8
              have S := S.f8
              have S := S.f3
              have S := S.f8
              have S := S.f8
              have S := S.f8
              have S := S.f8
              have S := S.f8
              have S := S.f8
              refine x_cut (X := Int × Nat) (I := (fun x wq => (fun x g => (0 ≤ x ∧ x ≤ 1000) ∧ Below b w wq ∧ Sep b wq (bxO g 74 #[I r, I i, I z, I x, I 0] :: slO hopT 74 vh hs :: bxO g9 107 #[I y37, I y39, vh] :: slO intT 3 vq q :: bxO g6 107 #[I 0, I 0, .slice none 0 0] :: bxO g4 27 #[va, vl] :: curO v n c 109 :: slO asnT 121 va A :: slO linkT 78 vl L :: os)) x.1 x.2)) (F := (fun x => (fun x g => [(17, .pointer (some ⟨g, 0, none⟩)), (13, I z), (12, I ((k : Int))), (10, I r), (11, I i), (0, .pointer (some ⟨c, 0, none⟩)), (2, I kd), (4, .pointer (some ⟨g4, 0, none⟩)), (6, .pointer (some ⟨g6, 0, none⟩)), (9, .pointer (some ⟨g9, 0, none⟩)), (15, I ((remote (⟨A, L⟩ : Topo) r o).1)), (16, I ((remote (⟨A, L⟩ : Topo) r o).2))]) x.1 x.2)) ((y37 + 50) + y110, g17) ?_ (by exact ⟨rfl, rfl, rfl, rfl, rfl, rfl, rfl, rfl, rfl, rfl, rfl, rfl, trivial⟩)
              try dsimp only
              exact ⟨by omega, B, S⟩
        rintro ⟨x, g⟩ w145 hI
        try dsimp only at hI ⊢
        obtain ⟨hx, B, S⟩ := hI
        obtain ⟨ea, hea⟩ := getx (l := A) (k := r.toNat) (by omega)
        refine w_seq ?_
        refine w_cut (X := List Hop × Value) (fun x wq => (fun hs2 vh2 => hs2.length ≤ k + 1 ∧ SealK ⟨A, L⟩ y37 y39 hs2 ∧ Below b w wq ∧ Sep b wq (slO hopT 74 vh2 hs2 :: bxO g9 107 #[I y37, I y39, vh2] :: slO intT 3 vq q :: bxO g6 107 #[I 0, I 0, .slice none 0 0] :: bxO g4 27 #[va, vl] :: curO v n c 109 :: slO asnT 121 va A :: slO linkT 78 vl L :: os)) x.1 x.2) (fun x => (fun hs2 vh2 => [(13, I z), (12, I ((k : Int))), (10, I r), (11, I i), (0, .pointer (some ⟨c, 0, none⟩)), (2, I kd), (4, .pointer (some ⟨g4, 0, none⟩)), (6, .pointer (some ⟨g6, 0, none⟩)), (9, .pointer (some ⟨g9, 0, none⟩)), (15, I ((remote (⟨A, L⟩ : Topo) r o).1)), (16, I ((remote (⟨A, L⟩ : Topo) r o).2))]) x.1 x.2) ?_ ?_
        · refine w_draw (.st .take 0 (.st .take 1 (.st .take 2 (.st .take 3 (.st .take 4 (.st .take 5 (.st .take 6 (.st .take 7 (.st .take 8 (.st .take 9 (.st .take 10 (.st .take 11 (.st .take 12 (.st .take 13 (.st .take 15 (.st .run 14 (.st .run 16 (.st .run 17 (.st .fin 18 (.st .fin 19 (.st .fin 20 .done))))))))))))))))))))) mixed (by kernel_rfl) ?_
          intro w146 x147
          have B := bx Hb B x147
          have S := S.below x147
          refine t_fldx fb_seg_2 rfl rfl ?_ rfl
          refine t_bx1 S.tail.tail.box ab_s_hop rfl rfl ?_ rfl
          refine t_fldx fb_topo_0 rfl rfl ?_ rfl
          refine t_bx1 S.tail.tail.tail.tail.tail.box ab_s_asn rfl rfl ?_ rfl
          refine t_move rfl ?_ rfl
          refine t_idx e_asn (k := r.toNat) (S.tail.tail.tail.tail.tail.tail.tail.sl) hea (Below.refl _ _) rfl rfl (by first | rfl | omega) ?_ rfl
          intro p118 hp118
          refine t_fld ln_asn_2 (by assumption) fb_asn_2 rfl ?_ rfl
          intro p119 hp119
          refine t_ldi (by assumption) ab_int (Below.refl _ _) rfl ?_ rfl
          refine t_fldx fb_seg_0 rfl rfl ?_ rfl
          refine t_bx1 S.tail.tail.box ab_int rfl rfl ?_ rfl
          refine t_bxn S.tail.tail.box ab_seg sb_seg rfl rfl ?_ rfl
          refine t_fldx fb_seg_2 rfl rfl ?_ rfl
          refine t_bx1 S.tail.tail.box ab_s_hop rfl rfl ?_ rfl
          refine t_len e_hop (S.tail.sl) rfl rfl ?_ rfl
          refine t_bxn S.box ab_hop sb_hop rfl rfl ?_ rfl
          refine t_callx Try.call125 rfl (spec_BetaAt (⟨y37, y39, hs⟩ : Seg) _ _ _ (seg_mkv (x := (⟨y37, y39, hs⟩ : Seg)) (S.tail.sl)) (by (try dsimp only); omega)) ?_ rfl rfl
          intro w148 x149
          have B := bx Hb B x149
          have S := S.below x149
          replace hp118 := hp118.below x149
          replace hp119 := hp119.below x149
          refine t_callx Try.call124 rfl (spec_AuthenticateHop _ _ _ (⟨r, i, z, x, 0⟩) _) ?_ rfl rfl
          intro w150 x151
          have B := bx Hb B x151
          have S := S.below x151
          replace hp118 := hp118.below x151
          replace hp119 := hp119.below x151
          refine t_lit (T := hopT) (l := [((authHop ea.key y37 (segBeta (⟨y37, y39, hs⟩ : Seg) (hs.length : Int)) (⟨r, i, z, x, 0⟩)) : Hop)]) (css := [[I (((authHop ea.key y37 (segBeta (⟨y37, y39, hs⟩ : Seg) (hs.length : Int)) (⟨r, i, z, x, 0⟩))).ia), I (((authHop ea.key y37 (segBeta (⟨y37, y39, hs⟩ : Seg) (hs.length : Int)) (⟨r, i, z, x, 0⟩))).ing), I (((authHop ea.key y37 (segBeta (⟨y37, y39, hs⟩ : Seg) (hs.length : Int)) (⟨r, i, z, x, 0⟩))).eg), I (((authHop ea.key y37 (segBeta (⟨y37, y39, hs⟩ : Seg) (hs.length : Int)) (⟨r, i, z, x, 0⟩))).exp), I (((authHop ea.key y37 (segBeta (⟨y37, y39, hs⟩ : Seg) (hs.length : Int)) (⟨r, i, z, x, 0⟩))).mac)]]) hop_flat S (fun w => bs_hop1 _ _ _ _ _ w) rfl rfl rfl rfl (by simp [maxLen]) (litR_one fun _ => rfl) ?_ rfl rfl
          intro u130 w152 x153 S
          have B := bx Hb B x153
          have hR := S.sl
          have S := S.f2
          refine t_cat hop_flat e_hop S hR rfl rfl rfl (by first | omega | (simp [-List.length_flatMap]; omega)) (by (simp [maxLen, -List.length_flatMap]; try omega)) ?_ rfl
          intro v131 w154 x155 S
          have B := B.trans x155
          clear hR
          have S := S.f1
          have S := S.tail
          refine t_fldx fb_seg_2 rfl rfl ?_ rfl
          obtain ⟨Av131, cv131, rfl, _⟩ := S.sl.form
          have S := S.f2
          refine t_st1 S sb_s_hop rfl rfl rfl rfl rfl ?_
          intro w156 b157 S
          have B := B.trans b157
          refine t_done' ?_
          have S := S.f2
          have S := S.tail
          have S := S.f7
          have S := S.f7
          have S := S.f7
          have S := S.f7
          have S := S.f7
          have S := S.f7
          have S := S.f6
          have S := S.f7
          refine x_cut (X := List Hop × Value) (I := (fun x wq => (fun hs2 vh2 => hs2.length ≤ k + 1 ∧ SealK ⟨A, L⟩ y37 y39 hs2 ∧ Below b w wq ∧ Sep b wq (slO hopT 74 vh2 hs2 :: bxO g9 107 #[I y37, I y39, vh2] :: slO intT 3 vq q :: bxO g6 107 #[I 0, I 0, .slice none 0 0] :: bxO g4 27 #[va, vl] :: curO v n c 109 :: slO asnT 121 va A :: slO linkT 78 vl L :: os)) x.1 x.2)) (F := (fun x => (fun hs2 vh2 => [(13, I z), (12, I ((k : Int))), (10, I r), (11, I i), (0, .pointer (some ⟨c, 0, none⟩)), (2, I kd), (4, .pointer (some ⟨g4, 0, none⟩)), (6, .pointer (some ⟨g6, 0, none⟩)), (9, .pointer (some ⟨g9, 0, none⟩)), (15, I ((remote (⟨A, L⟩ : Topo) r o).1)), (16, I ((remote (⟨A, L⟩ : Topo) r o).2))]) x.1 x.2)) (hs ++ [authHop ea.key y37 (segBeta ⟨y37, y39, hs⟩ hs.length) ⟨r, i, z, x, 0⟩], .slice Av131 (hs ++ ([((authHop ea.key y37 (segBeta (⟨y37, y39, hs⟩ : Seg) (hs.length : Int)) (⟨r, i, z, x, 0⟩)) : Hop)])).length cv131) ?_ (by exact ⟨rfl, rfl, rfl, rfl, rfl, rfl, rfl, rfl, rfl, rfl, rfl, trivial⟩)
          try dsimp only
          exact ⟨by rw [List.length_append, List.length_singleton]; omega, seal_next (r := r) (i := i) (e := z) (x := x) hS hA8 hr hea hi hzr hiz (by omega) rfl, B, S⟩
        rintro ⟨hs2, vh2⟩ w158 hI
        try dsimp only at hI ⊢
        obtain ⟨hl2, hS2, B, S⟩ := hI
        refine w_seq ?_
        refine w_seq ?_
        refine w_region ?_
        refine t_move rfl ?_ rfl
        refine t_eql rfl rfl ?_ rfl
        refine t_done ?_
        refine x_seq ?_
        refine w_if rfl ?_ ?_
        · intro hz0
          refine w_seq ?_
          refine w_region ?_
          refine t_bxn S.tail.box ab_seg sb_seg rfl rfl ?_ rfl
          have S := S.f3
          refine t_stn S sb_seg rfl rfl rfl rfl (by intro zz hu; have hu : zz ∈ ([I y37, I y39, vh2] : List Value) := hu; simp only [List.mem_cons, List.not_mem_nil, or_false] at hu; rcases hu with rfl | rfl | rfl <;> first | rfl | exact (SlR.cells (by first | assumption | exact S.tail.sl | exact S.tail.tail.sl | exact S.tail.tail.tail.sl | exact S.tail.tail.tail.tail.sl | exact S.tail.tail.tail.tail.tail.sl | exact S.tail.tail.tail.tail.tail.tail.sl | exact S.tail.tail.tail.tail.tail.tail.tail.sl | exact S.tail.tail.tail.tail.tail.tail.tail.tail.sl)).2) ?_
          intro w159 b160 S
          have B := B.trans b160
          refine t_done ?_
          refine x_seq ?_
          refine w_ret ?_
          refine x_then_ret ?_
          refine x_block_ret ?_
          refine x_then_ret ?_
          refine x_then_ret ?_
          refine x_block_ret ?_
          refine x_then_ret ?_
          refine x_retc rfl rfl S.box ab_seg sb_seg rfl ?_
          have S := S.tail
          have S := S.f1
          have S := S.tail
          have S := S.f1
          have S := S.tail
          have S := S.f1
          have S := S.tail
          have S := S.f3
          have S := S.f3
          have S := S.f3
          have S := S.f3
          exact ⟨_, ⟨y37, y39, hs2⟩, rfl, hS2.seg (by omega) (by omega) (by omega) (by omega) (by omega), S, B⟩
        · intro hz0
          refine w_skip ?_
          refine x_seq ?_
          refine w_seq ?_
          refine w_region ?_
          refine t_move rfl ?_ rfl
          refine t_assign rfl ?_ rfl
          refine t_done ?_
          refine x_seq ?_
          refine w_region ?_
          refine t_move rfl ?_ rfl
          refine t_assign rfl ?_ rfl
          refine t_done ?_
          refine x_block_normal ?_
          refine x_seq ?_
          refine w_region ?_
          refine t_move rfl ?_ rfl
          refine t_add rfl rfl (by omega) ?_ rfl
          refine t_assign rfl ?_ rfl
          refine t_done ?_
          have hzo : z = o := by omega
          have hrem2 := hrem (by omega)
          refine x_round (X := Nat × Int × Int × List Hop × Value) (I := (fun x wq => (fun k r i hs vh => k ≤ 5 ∧ (0 ≤ r ∧ r < (A.length : Int)) ∧ (0 ≤ i ∧ i ≤ 6) ∧ List.length hs ≤ k ∧ SealK ⟨A, L⟩ y37 y39 hs ∧ Below b w wq ∧ Sep b wq (slO hopT 74 vh hs :: bxO g9 107 #[I y37, I y39, vh] :: slO intT 3 vq q :: bxO g6 107 #[I 0, I 0, .slice none 0 0] :: bxO g4 27 #[va, vl] :: curO v n c 109 :: slO asnT 121 va A :: slO linkT 78 vl L :: os)) x.1 x.2.1 x.2.2.1 x.2.2.2.1 x.2.2.2.2)) (F := (fun x => (fun k r i hs vh => [(12, I ((k : Int))), (10, I r), (11, I i), (0, .pointer (some ⟨c, 0, none⟩)), (2, I kd), (4, .pointer (some ⟨g4, 0, none⟩)), (6, .pointer (some ⟨g6, 0, none⟩)), (9, .pointer (some ⟨g9, 0, none⟩))]) x.1 x.2.1 x.2.2.1 x.2.2.2.1 x.2.2.2.2)) (μ := (fun x => (fun k r i hs vh => 5 - k) x.1 x.2.1 x.2.2.1 x.2.2.2.1 x.2.2.2.2)) (k + 1, (remote ⟨A, L⟩ r o).1, (remote ⟨A, L⟩ r o).2, hs2, vh2) ?_ (by exact ⟨rfl, rfl, rfl, rfl, rfl, rfl, rfl, rfl, trivial⟩) (by (try dsimp only); omega)
          try dsimp only
          exact ⟨by omega, hrem2.1, by omega, hl2, hS2, B, S⟩
      · intro hge
        refine w_exit ?_
        refine x_then_exit ?_
        refine x_then_exit ?_
        refine x_block_exit ?_
        refine x_seq ?_
        refine w_seq ?_
        refine w_region ?_
        refine t_bxn S.tail.box ab_seg sb_seg rfl rfl ?_ rfl
        have S := S.f3
        refine t_stn S sb_seg rfl rfl rfl rfl (by intro zz hu; have hu : zz ∈ ([I y37, I y39, vh] : List Value) := hu; simp only [List.mem_cons, List.not_mem_nil, or_false] at hu; rcases hu with rfl | rfl | rfl <;> first | rfl | exact (SlR.cells (by first | assumption | exact S.tail.sl | exact S.tail.tail.sl | exact S.tail.tail.tail.sl | exact S.tail.tail.tail.tail.sl | exact S.tail.tail.tail.tail.tail.sl | exact S.tail.tail.tail.tail.tail.tail.sl | exact S.tail.tail.tail.tail.tail.tail.tail.sl | exact S.tail.tail.tail.tail.tail.tail.tail.tail.sl)).2) ?_
        intro w161 b162 S
        have B := B.trans b162
        refine t_done ?_
        refine x_seq ?_
        refine w_ret ?_
        refine x_retc rfl rfl S.box ab_seg sb_seg rfl ?_
        have S := S.tail
        have S := S.f1
        have S := S.tail
        have S := S.f1
        have S := S.tail
        have S := S.f1
        have S := S.tail
        have S := S.f3
        have S := S.f3
        have S := S.f3
        have S := S.f3
        exact ⟨_, ⟨y37, y39, hs⟩, rfl, hS.seg (by omega) (by omega) (by omega) (by omega) (by omega), S, B⟩
end Go.Proofs.Ytdaecknfahgddaa
namespace Go.Proofs.Ytdaecknfahgddaa
open Go.RowKit
set_option linter.unusedVariables false
section
variable {P : Program} {n : Nat} {L : Frm} {w : World}
theorem x_rettc {fn : Func} {R : Ending → World → Prop} {t0 : Nat} {v0 : Value} {t1 g1 sz1 : Nat} {tt1 tb1 : TypeId} {C1 : Array Value} (hr : fn.results = #[.tmp t0, .cell t1 tt1]) (h0 : look L t0 = some v0) (h1 : look L t1 = some (.pointer (some ⟨g1, 0, none⟩))) (hb1 : w.heap[g1]? = some (.cells C1 tb1 (0, 0))) (ha1 : aggB P tt1 = some true) (hs1 : sizeB P tt1 = some sz1) (hz1 : C1.size = sz1) (h : R (.returned (.tuple #[v0, .agg C1])) w) : WX n (bodyPost P fn R) .ret L w := by
  intro a hE
  subst hz1
  have k0 := hE.at_ _ _ h0
  have k1 := hE.at_ _ _ h1
  refine bodyPost_ret ?_ hE.defers h
  simp [results, hr, k0, k1, asAddr, run_loadBox hb1 ha1 hs1]
theorem x_retcc {fn : Func} {R : Ending → World → Prop} {t0 g0 sz0 : Nat} {tt0 tb0 : TypeId} {C0 : Array Value} {t1 g1 sz1 : Nat} {tt1 tb1 : TypeId} {C1 : Array Value} (hr : fn.results = #[.cell t0 tt0, .cell t1 tt1]) (h0 : look L t0 = some (.pointer (some ⟨g0, 0, none⟩))) (hb0 : w.heap[g0]? = some (.cells C0 tb0 (0, 0))) (ha0 : aggB P tt0 = some true) (hs0 : sizeB P tt0 = some sz0) (hz0 : C0.size = sz0) (h1 : look L t1 = some (.pointer (some ⟨g1, 0, none⟩))) (hb1 : w.heap[g1]? = some (.cells C1 tb1 (0, 0))) (ha1 : aggB P tt1 = some true) (hs1 : sizeB P tt1 = some sz1) (hz1 : C1.size = sz1) (h : R (.returned (.tuple #[.agg C0, .agg C1])) w) : WX n (bodyPost P fn R) .ret L w := by
  intro a hE
  subst hz0
  subst hz1
  have k0 := hE.at_ _ _ h0
  have k1 := hE.at_ _ _ h1
  refine bodyPost_ret ?_ hE.defers h
  simp [results, hr, k0, asAddr, run_loadBox hb0 ha0 hs0, k1, run_loadBox hb1 ha1 hs1]
theorem x_rettcc {fn : Func} {R : Ending → World → Prop} {t0 : Nat} {v0 : Value} {t1 g1 sz1 : Nat} {tt1 tb1 : TypeId} {C1 : Array Value} {t2 g2 sz2 : Nat} {tt2 tb2 : TypeId} {C2 : Array Value} (hr : fn.results = #[.tmp t0, .cell t1 tt1, .cell t2 tt2]) (h0 : look L t0 = some v0) (h1 : look L t1 = some (.pointer (some ⟨g1, 0, none⟩))) (hb1 : w.heap[g1]? = some (.cells C1 tb1 (0, 0))) (ha1 : aggB P tt1 = some true) (hs1 : sizeB P tt1 = some sz1) (hz1 : C1.size = sz1) (h2 : look L t2 = some (.pointer (some ⟨g2, 0, none⟩))) (hb2 : w.heap[g2]? = some (.cells C2 tb2 (0, 0))) (ha2 : aggB P tt2 = some true) (hs2 : sizeB P tt2 = some sz2) (hz2 : C2.size = sz2) (h : R (.returned (.tuple #[v0, .agg C1, .agg C2])) w) : WX n (bodyPost P fn R) .ret L w := by
  intro a hE
  subst hz1
  subst hz2
  have k0 := hE.at_ _ _ h0
  have k1 := hE.at_ _ _ h1
  have k2 := hE.at_ _ _ h2
  refine bodyPost_ret ?_ hE.defers h
  simp [results, hr, k0, k1, asAddr, run_loadBox hb1 ha1 hs1, k2, run_loadBox hb2 ha2 hs2]
end
end Go.Proofs.Ytdaecknfahgddaa
