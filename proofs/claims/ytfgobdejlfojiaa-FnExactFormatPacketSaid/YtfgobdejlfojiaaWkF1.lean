/- FormatInt, of the program and of the reference. -/
import Derived.Test.YtfgobdejlfojiaaStr
namespace Go.Proofs.Ytfgobdejlfojiaa
open Go.RowKit
set_option linter.unusedVariables false
set_option maxRecDepth 20000

theorem ret_str {a b : List UInt8} (h : a = b) : Ending.returned (Sv a) = .returned (Sv b) := by rw [h]
theorem tmod_bd (n : Int) : -9 ≤ n.tmod 10 ∧ n.tmod 10 ≤ 9 := by
  have h : (n.tmod 10).natAbs = n.natAbs % 10 := Int.natAbs_tmod n 10
  omega
theorem tdiv_bd {n : Int} (h : In64 n) : -9223372036854775808 ≤ n.tdiv 10 ∧ n.tdiv 10 ≤ 9223372036854775807 := by
  have := natAbs_quot n
  unfold In64 at h
  omega
theorem impl_FormatInt (n : Int) (w : World) (hg : In64 n) : Calls Try.prog 126 #[I n] w fun e w' => e = .returned (Sv (fmtI n)) ∧ Below w.heap.size w w' := by
  have hl := (fmtI_len hg).1
  have X0 := Below.refl w.heap.size w
  refine enter Try.func126 rfl Try.ntmps126 rfl ?_
  refine w_seq ?_
  refine w_region ?_
  have S := Sep.nil w
  have B := Below.refl w.heap.size w
  have Hb := Nat.le_refl w.heap.size
  refine t_assign rfl ?_ rfl
  refine t_done ?_
  refine x_seq ?_
  refine w_seq ?_
  refine w_region ?_
  refine t_assign rfl ?_ rfl
  refine t_done ?_
  refine x_seq ?_
  refine w_seq ?_
  refine w_region ?_
  refine t_move rfl ?_ rfl
  refine t_lss rfl rfl ?_ rfl
  refine t_assign rfl ?_ rfl
  refine t_done ?_
  refine x_seq ?_
  refine w_seq ?_
  refine w_block ?_
  refine w_loop (X := Int × List UInt8 × Value) (fun x wq => (fun x acc u => In64 x ∧ digs x.natAbs ++ acc = digs n.natAbs ∧ Below w.heap.size w wq ∧ Sep w.heap.size wq [slO byteT 5 u acc]) x.1 x.2.1 x.2.2) (fun x => (fun x acc u => [(0, I x), (3, u), (2, Sv []), (4, .bool (decide (n < 0)))]) x.1 x.2.1 x.2.2) (fun x => (fun x acc u => x.natAbs) x.1 x.2.1 x.2.2) (n, [], .slice none 0 0) ?_ ⟨rfl, rfl, rfl, rfl, trivial⟩ ?_
  · exact ⟨hg, List.append_nil _, B, S.addNil⟩
  · rintro ⟨x, acc, u⟩ w1 hI
    try dsimp only at hI ⊢
    obtain ⟨hx, hd, B, S⟩ := hI
    have hx' := hx
    unfold In64 at hx'
    have h1 := tmod_bd x
    have h2 := tdiv_bd hx
    have h3 := digit x
    have h4 := natAbs_quot x
    have hal : acc.length ≤ 20 := by
      have := congrArg List.length hd
      rw [List.length_append] at this
      omega
    refine w_block ?_
    refine w_seq ?_
    refine w_region ?_
    refine t_move rfl ?_ rfl
    refine t_remt rfl rfl (by omega) ?_ rfl
    refine t_assign rfl ?_ rfl
    refine t_done ?_
    refine x_seq ?_
    refine w_seq ?_
    refine w_seq ?_
    refine w_region ?_
    refine t_move rfl ?_ rfl
    refine t_lss rfl rfl ?_ rfl
    refine t_done ?_
    refine x_seq ?_
    have hbt : ∀ d : Int, d = ((x.natAbs % 10 : Nat) : Int) → digs x.natAbs ++ acc = if x.natAbs < 10 then [bt (48 + d)] ++ acc else digs (x.natAbs / 10) ++ ([bt (48 + d)] ++ acc) := fun d hdd => by
      subst hdd
      by_cases hs : x.natAbs < 10
      · rw [digs_small hs, if_pos hs, show x.natAbs % 10 = x.natAbs by omega]
      · rw [digs_big hs, if_neg hs, List.append_assoc]
    refine w_if rfl ?_ ?_
    · intro hneg
      have hb := hbt (-((x).tmod 10)) (by rw [h3, if_pos hneg])
      rw [hd] at hb
      refine w_region ?_
      refine t_move rfl ?_ rfl
      refine t_neg rfl (by omega) ?_ rfl
      refine t_assign rfl ?_ rfl
      refine t_done ?_
      refine x_seq ?_
      refine w_seq ?_
      refine w_region ?_
      refine t_move rfl ?_ rfl
      refine t_add rfl rfl (by omega) ?_ rfl
      refine t_conv Try.underlying3 Try.underlying5 rfl ?_ rfl
      refine t_lit (T := byteT) (l := [bt (48 + (-((x).tmod 10)))]) (css := [[.int .u8 (IntKind.u8.wrap (48 + (-((x).tmod 10))))]]) byte_flat S (fun w => bs_byte1 _ w) rfl rfl rfl rfl (by simp [maxLen]) (litR_one fun _ => byte_lit _) ?_ rfl rfl
      intro u17 w2 x3 S
      have B := bx Hb B x3
      refine t_move rfl ?_ rfl
      have hR := S.tail.sl
      refine t_cat byte_flat e_byte S hR rfl rfl rfl (by first | omega | (simp [-List.length_flatMap]; omega)) (by (simp [maxLen, -List.length_flatMap]; try omega)) ?_ rfl
      intro v19 w4 x5 S
      have B := B.trans x5
      clear hR
      refine t_assign rfl ?_ rfl
      refine t_done ?_
      refine x_seq ?_
      refine w_seq ?_
      refine w_region ?_
      refine t_move rfl ?_ rfl
      refine t_quot rfl rfl (by decide) (by omega) ?_ rfl
      refine t_assign rfl ?_ rfl
      refine t_done ?_
      refine x_seq ?_
      refine w_seq ?_
      refine w_region ?_
      refine t_move rfl ?_ rfl
      refine t_eql rfl rfl ?_ rfl
      refine t_done ?_
      refine x_seq ?_
      refine w_if rfl ?_ ?_
      · intro hz
        rw [if_pos (by omega)] at hb
        refine w_exit ?_
        refine x_block_other rfl ?_
        refine x_then_exit ?_
        refine x_block_exit ?_
        refine x_seq ?_
        refine w_seq ?_
        refine w_seq ?_
        refine w_region ?_
        refine t_move rfl ?_ rfl
        refine t_done ?_
        refine x_seq ?_
        refine w_if rfl ?_ ?_
        · intro hn
          refine w_seq ?_
          refine w_region ?_
          refine t_move rfl ?_ rfl
          refine t_bts Try.underlying46 Try.underlying5 Try.underlying9 (S.sl) (Below.refl _ _) rfl ?_ rfl
          refine t_cats rfl rfl (by first | omega | (simp; done) | (simp; omega)) ?_ rfl
          refine t_assign rfl ?_ rfl
          refine t_done ?_
          refine x_seq ?_
          refine w_ret ?_
          refine x_then_ret ?_
          refine x_ret1 rfl rfl ?_
          exact ⟨ret_str (by unfold fmtI; rw [if_pos hn, hb]), ext_trans X0 B⟩
        · intro hn
          refine w_skip ?_
          refine x_seq ?_
          refine w_seq ?_
          refine w_region ?_
          refine t_move rfl ?_ rfl
          refine t_bts Try.underlying46 Try.underlying5 Try.underlying9 (S.sl) (Below.refl _ _) rfl ?_ rfl
          refine t_assign rfl ?_ rfl
          refine t_done ?_
          refine x_seq ?_
          refine w_ret ?_
          refine x_ret1 rfl rfl ?_
          exact ⟨ret_str (by unfold fmtI; rw [if_neg hn, hb]; rfl), ext_trans X0 B⟩
      · intro hz
        rw [if_neg (by omega), ← h4] at hb
        refine w_skip ?_
        refine x_block_normal ?_
        have S := S.f1
        have S := S.tail
        refine x_round (X := Int × List UInt8 × Value) (I := (fun x wq => (fun x acc u => In64 x ∧ digs x.natAbs ++ acc = digs n.natAbs ∧ Below w.heap.size w wq ∧ Sep w.heap.size wq [slO byteT 5 u acc]) x.1 x.2.1 x.2.2)) (F := (fun x => (fun x acc u => [(0, I x), (3, u), (2, Sv []), (4, .bool (decide (n < 0)))]) x.1 x.2.1 x.2.2)) (μ := (fun x => (fun x acc u => x.natAbs) x.1 x.2.1 x.2.2)) ((x).tdiv 10, [bt (48 + -((x).tmod 10))] ++ acc, v19) ?_ (by exact ⟨rfl, rfl, rfl, rfl, trivial⟩) (by (try dsimp only); omega)
        try dsimp only
        exact ⟨h2, hb.symm, B, S⟩
    · intro hneg
      have hb := hbt ((x).tmod 10) (by rw [h3, if_neg hneg])
      rw [hd] at hb
      refine w_skip ?_
      refine x_seq ?_
      refine w_seq ?_
      refine w_region ?_
      refine t_move rfl ?_ rfl
      refine t_add rfl rfl (by omega) ?_ rfl
      refine t_conv Try.underlying3 Try.underlying5 rfl ?_ rfl
      refine t_lit (T := byteT) (l := [bt (48 + ((x).tmod 10))]) (css := [[.int .u8 (IntKind.u8.wrap (48 + ((x).tmod 10)))]]) byte_flat S (fun w => bs_byte1 _ w) rfl rfl rfl rfl (by simp [maxLen]) (litR_one fun _ => byte_lit _) ?_ rfl rfl
      intro u17 w6 x7 S
      have B := bx Hb B x7
      refine t_move rfl ?_ rfl
      have hR := S.tail.sl
      refine t_cat byte_flat e_byte S hR rfl rfl rfl (by first | omega | (simp [-List.length_flatMap]; omega)) (by (simp [maxLen, -List.length_flatMap]; try omega)) ?_ rfl
      intro v19 w8 x9 S
      have B := B.trans x9
      clear hR
      refine t_assign rfl ?_ rfl
      refine t_done ?_
      refine x_seq ?_
      refine w_seq ?_
      refine w_region ?_
      refine t_move rfl ?_ rfl
      refine t_quot rfl rfl (by decide) (by omega) ?_ rfl
      refine t_assign rfl ?_ rfl
      refine t_done ?_
      refine x_seq ?_
      refine w_seq ?_
      refine w_region ?_
      refine t_move rfl ?_ rfl
      refine t_eql rfl rfl ?_ rfl
      refine t_done ?_
      refine x_seq ?_
      refine w_if rfl ?_ ?_
      · intro hz
        rw [if_pos (by omega)] at hb
        refine w_exit ?_
        refine x_block_other rfl ?_
        refine x_then_exit ?_
        refine x_block_exit ?_
        refine x_seq ?_
        refine w_seq ?_
        refine w_seq ?_
        refine w_region ?_
        refine t_move rfl ?_ rfl
        refine t_done ?_
        refine x_seq ?_
        refine w_if rfl ?_ ?_
        · intro hn
          refine w_seq ?_
          refine w_region ?_
          refine t_move rfl ?_ rfl
          refine t_bts Try.underlying46 Try.underlying5 Try.underlying9 (S.sl) (Below.refl _ _) rfl ?_ rfl
          refine t_cats rfl rfl (by first | omega | (simp; done) | (simp; omega)) ?_ rfl
          refine t_assign rfl ?_ rfl
          refine t_done ?_
          refine x_seq ?_
          refine w_ret ?_
          refine x_then_ret ?_
          refine x_ret1 rfl rfl ?_
          exact ⟨ret_str (by unfold fmtI; rw [if_pos hn, hb]), ext_trans X0 B⟩
        · intro hn
          refine w_skip ?_
          refine x_seq ?_
          refine w_seq ?_
          refine w_region ?_
          refine t_move rfl ?_ rfl
          refine t_bts Try.underlying46 Try.underlying5 Try.underlying9 (S.sl) (Below.refl _ _) rfl ?_ rfl
          refine t_assign rfl ?_ rfl
          refine t_done ?_
          refine x_seq ?_
          refine w_ret ?_
          refine x_ret1 rfl rfl ?_
          exact ⟨ret_str (by unfold fmtI; rw [if_neg hn, hb]; rfl), ext_trans X0 B⟩
      · intro hz
        rw [if_neg (by omega), ← h4] at hb
        refine w_skip ?_
        refine x_block_normal ?_
        have S := S.f1
        have S := S.tail
        refine x_round (X := Int × List UInt8 × Value) (I := (fun x wq => (fun x acc u => In64 x ∧ digs x.natAbs ++ acc = digs n.natAbs ∧ Below w.heap.size w wq ∧ Sep w.heap.size wq [slO byteT 5 u acc]) x.1 x.2.1 x.2.2)) (F := (fun x => (fun x acc u => [(0, I x), (3, u), (2, Sv []), (4, .bool (decide (n < 0)))]) x.1 x.2.1 x.2.2)) (μ := (fun x => (fun x acc u => x.natAbs) x.1 x.2.1 x.2.2)) ((x).tdiv 10, [bt (48 + (x).tmod 10)] ++ acc, v19) ?_ (by exact ⟨rfl, rfl, rfl, rfl, trivial⟩) (by (try dsimp only); omega)
        try dsimp only
        exact ⟨h2, hb.symm, B, S⟩
theorem spec_FormatInt (n : Int) (w : World) (hg : In64 n) : Calls Try.prog 121 #[I n] w fun e w' => e = .returned (Sv (fmtI n)) ∧ Below w.heap.size w w' := by
  have hl := (fmtI_len hg).1
  have X0 := Below.refl w.heap.size w
  refine enter Try.func121 rfl Try.ntmps121 rfl ?_
  refine w_seq ?_
  refine w_region ?_
  have S := Sep.nil w
  have B := Below.refl w.heap.size w
  have Hb := Nat.le_refl w.heap.size
  refine t_assign rfl ?_ rfl
  refine t_done ?_
  refine x_seq ?_
  refine w_seq ?_
  refine w_seq ?_
  refine w_region ?_
  refine t_move rfl ?_ rfl
  refine t_eql rfl rfl ?_ rfl
  refine t_done ?_
  refine x_seq ?_
  refine w_if rfl ?_ ?_
  · intro h0
    refine w_seq ?_
    refine w_region ?_
    refine t_assign rfl ?_ rfl
    refine t_done ?_
    refine x_seq ?_
    refine w_ret ?_
    refine x_then_ret ?_
    refine x_ret1 rfl rfl ?_
    exact ⟨ret_str (by rw [h0]; unfold fmtI; rw [show (0 : Int).natAbs = 0 from rfl, digs_small (by omega)]; rfl), X0⟩
  intro h0
  refine w_skip ?_
  refine x_seq ?_
  refine w_seq ?_
  refine w_region ?_
  refine t_assign rfl ?_ rfl
  refine t_done ?_
  refine x_seq ?_
  refine w_seq ?_
  refine w_seq ?_
  refine w_region ?_
  refine t_move rfl ?_ rfl
  refine t_assign rfl ?_ rfl
  refine t_done ?_
  refine x_seq ?_
  refine w_block ?_
  refine w_loop (X := Int × List UInt8) (fun x wq => (fun x s => In64 x ∧ (x = 0 → s = digs n.natAbs) ∧ (x ≠ 0 → digs x.natAbs ++ s = digs n.natAbs) ∧ Below w.heap.size w wq ∧ Sep w.heap.size wq []) x.1 x.2) (fun x => (fun x s => [(4, I x), (3, Sv s), (0, I n), (2, Sv [])]) x.1 x.2) (fun x => (fun x s => x.natAbs) x.1 x.2) (n, []) ?_ ⟨rfl, rfl, rfl, rfl, trivial⟩ ?_
  · exact ⟨hg, fun h => absurd h h0, fun _ => List.append_nil _, Below.refl _ _, Sep.nil _⟩
  · rintro ⟨x, s⟩ w10 hI
    try dsimp only at hI ⊢
    obtain ⟨hx, hd0, hd1, B, S⟩ := hI
    refine w_seq ?_
    refine w_seq ?_
    refine w_region ?_
    refine t_move rfl ?_ rfl
    refine t_neq rfl rfl ?_ rfl
    refine t_done ?_
    refine x_seq ?_
    refine w_if rfl ?_ ?_
    · intro hxn
      have hd := hd1 hxn
      have hx' := hx
      unfold In64 at hx'
      have h1 := tmod_bd x
      have h2 := tdiv_bd hx
      have h3 := digit x
      have h4 := natAbs_quot x
      have hal : s.length ≤ 20 := by
        have := congrArg List.length hd
        rw [List.length_append] at this
        omega
      have hbt : ∀ d : Int, d = ((x.natAbs % 10 : Nat) : Int) → digs x.natAbs ++ s = if x.natAbs < 10 then [bt (48 + d)] ++ s else digs (x.natAbs / 10) ++ ([bt (48 + d)] ++ s) := fun d hdd => by
        subst hdd
        by_cases hs : x.natAbs < 10
        · rw [digs_small hs, if_pos hs, show x.natAbs % 10 = x.natAbs by omega]
        · rw [digs_big hs, if_neg hs, List.append_assoc]
      refine w_skip ?_
      refine x_seq ?_
      refine w_seq ?_
      refine w_block ?_
      refine w_seq ?_
      refine w_region ?_
      refine t_move rfl ?_ rfl
      refine t_remt rfl rfl (by omega) ?_ rfl
      refine t_assign rfl ?_ rfl
      refine t_done ?_
      refine x_seq ?_
      refine w_seq ?_
      refine w_seq ?_
      refine w_region ?_
      refine t_move rfl ?_ rfl
      refine t_lss rfl rfl ?_ rfl
      refine t_done ?_
      refine x_seq ?_
      refine w_if rfl ?_ ?_
      · intro hneg
        have hb := hbt (-((x).tmod 10)) (by rw [h3, if_pos hneg])
        rw [hd] at hb
        refine w_region ?_
        refine t_move rfl ?_ rfl
        refine t_neg rfl (by omega) ?_ rfl
        refine t_assign rfl ?_ rfl
        refine t_done ?_
        refine x_seq ?_
        refine w_region ?_
        refine t_move rfl ?_ rfl
        refine t_add rfl rfl (by omega) ?_ rfl
        refine t_conv Try.underlying3 Try.underlying5 rfl ?_ rfl
        refine t_lit (T := byteT) (l := [bt (48 + (-((x).tmod 10)))]) (css := [[.int .u8 (IntKind.u8.wrap (48 + (-((x).tmod 10))))]]) byte_flat S (fun w => bs_byte1 _ w) rfl rfl rfl rfl (by simp [maxLen]) (litR_one fun _ => byte_lit _) ?_ rfl rfl
        intro u22 w11 x12 S
        have B := bx Hb B x12
        refine t_bts Try.underlying46 Try.underlying5 Try.underlying9 (S.sl) (Below.refl _ _) rfl ?_ rfl
        refine t_move rfl ?_ rfl
        refine t_cats rfl rfl (by first | omega | (simp; done) | (simp; omega)) ?_ rfl
        refine t_assign rfl ?_ rfl
        refine t_done ?_
        refine x_block_normal ?_
        refine x_seq ?_
        refine w_region ?_
        refine t_move rfl ?_ rfl
        refine t_quot rfl rfl (by decide) (by omega) ?_ rfl
        refine t_assign rfl ?_ rfl
        refine t_done ?_
        have S := S.tail
        refine x_round (X := Int × List UInt8) (I := (fun x wq => (fun x s => In64 x ∧ (x = 0 → s = digs n.natAbs) ∧ (x ≠ 0 → digs x.natAbs ++ s = digs n.natAbs) ∧ Below w.heap.size w wq ∧ Sep w.heap.size wq []) x.1 x.2)) (F := (fun x => (fun x s => [(4, I x), (3, Sv s), (0, I n), (2, Sv [])]) x.1 x.2)) (μ := (fun x => (fun x s => x.natAbs) x.1 x.2)) ((x).tdiv 10, ([bt (48 + (-((x).tmod 10)))]) ++ s) ?_ (by exact ⟨rfl, rfl, rfl, rfl, trivial⟩) (by (try dsimp only); omega)
        try dsimp only
        exact ⟨h2, fun hz => by rw [if_pos (by omega)] at hb; exact hb.symm, fun hz => by rw [if_neg (by omega), ← h4] at hb; exact hb.symm, B, S⟩
      · intro hneg
        have hb := hbt ((x).tmod 10) (by rw [h3, if_neg hneg])
        rw [hd] at hb
        refine w_skip ?_
        refine x_seq ?_
        refine w_region ?_
        refine t_move rfl ?_ rfl
        refine t_add rfl rfl (by omega) ?_ rfl
        refine t_conv Try.underlying3 Try.underlying5 rfl ?_ rfl
        refine t_lit (T := byteT) (l := [bt (48 + ((x).tmod 10))]) (css := [[.int .u8 (IntKind.u8.wrap (48 + ((x).tmod 10)))]]) byte_flat S (fun w => bs_byte1 _ w) rfl rfl rfl rfl (by simp [maxLen]) (litR_one fun _ => byte_lit _) ?_ rfl rfl
        intro u22 w13 x14 S
        have B := bx Hb B x14
        refine t_bts Try.underlying46 Try.underlying5 Try.underlying9 (S.sl) (Below.refl _ _) rfl ?_ rfl
        refine t_move rfl ?_ rfl
        refine t_cats rfl rfl (by first | omega | (simp; done) | (simp; omega)) ?_ rfl
        refine t_assign rfl ?_ rfl
        refine t_done ?_
        refine x_block_normal ?_
        refine x_seq ?_
        refine w_region ?_
        refine t_move rfl ?_ rfl
        refine t_quot rfl rfl (by decide) (by omega) ?_ rfl
        refine t_assign rfl ?_ rfl
        refine t_done ?_
        have S := S.tail
        refine x_round (X := Int × List UInt8) (I := (fun x wq => (fun x s => In64 x ∧ (x = 0 → s = digs n.natAbs) ∧ (x ≠ 0 → digs x.natAbs ++ s = digs n.natAbs) ∧ Below w.heap.size w wq ∧ Sep w.heap.size wq []) x.1 x.2)) (F := (fun x => (fun x s => [(4, I x), (3, Sv s), (0, I n), (2, Sv [])]) x.1 x.2)) (μ := (fun x => (fun x s => x.natAbs) x.1 x.2)) ((x).tdiv 10, ([bt (48 + ((x).tmod 10))]) ++ s) ?_ (by exact ⟨rfl, rfl, rfl, rfl, trivial⟩) (by (try dsimp only); omega)
        try dsimp only
        exact ⟨h2, fun hz => by rw [if_pos (by omega)] at hb; exact hb.symm, fun hz => by rw [if_neg (by omega), ← h4] at hb; exact hb.symm, B, S⟩
    · intro hxn
      have hs := hd0 (by simpa using hxn)
      have hsl : s.length ≤ 20 := by rw [hs]; exact hl
      refine w_exit ?_
      refine x_then_exit ?_
      refine x_then_exit ?_
      refine x_block_exit ?_
      refine x_seq ?_
      refine w_seq ?_
      refine w_seq ?_
      refine w_region ?_
      refine t_move rfl ?_ rfl
      refine t_lss rfl rfl ?_ rfl
      refine t_done ?_
      refine x_seq ?_
      refine w_if rfl ?_ ?_
      · intro hn
        refine w_seq ?_
        refine w_region ?_
        refine t_move rfl ?_ rfl
        refine t_cats rfl rfl (by first | omega | (simp; done) | (simp; omega)) ?_ rfl
        refine t_assign rfl ?_ rfl
        refine t_done ?_
        refine x_seq ?_
        refine w_ret ?_
        refine x_then_ret ?_
        refine x_ret1 rfl rfl ?_
        exact ⟨ret_str (by unfold fmtI; rw [if_pos hn, hs]), ext_trans X0 B⟩
      · intro hn
        refine w_skip ?_
        refine x_seq ?_
        refine w_seq ?_
        refine w_region ?_
        refine t_move rfl ?_ rfl
        refine t_assign rfl ?_ rfl
        refine t_done ?_
        refine x_seq ?_
        refine w_ret ?_
        refine x_ret1 rfl rfl ?_
        exact ⟨ret_str (by unfold fmtI; rw [if_neg hn, hs]; rfl), ext_trans X0 B⟩
end Go.Proofs.Ytfgobdejlfojiaa
