/- Parts of segments: ChainAdd, BetaAt, MakePart, lastHopOf, JoinUpDown, of the program and of the reference. -/
import Derived.Test.YtaapaafagmbkoaaWkA
import Derived.Test.YtaapaafagmbkoaaPartEnds
import Derived.Test.YtaapaafagmbkoaaHole
import Derived.Test.YtaapaafagmbkoaaSepN
namespace Go.Proofs.Ytaapaafagmbkoaa
open Go.RowKit
set_option linter.unusedVariables false
set_option maxRecDepth 20000

def chainAdd (b : Int) (l : List Int) : Int := l.foldl addM b
theorem chain_succ {b : Int} {l : List Int} {k : Nat} {x : Int} (h : l[k]? = some x) : chainAdd b (l.take (k + 1)) = addM (chainAdd b (l.take k)) x := by
  unfold chainAdd; rw [take_succ h, List.foldl_append]; rfl
theorem impl_ChainAdd (b : Int) (l : List Int) (v : Value) (w : World) (h : SlR intT w v l) (hz : l.length ≤ 16777216) : Calls Try.prog 169 #[I b, v] w fun e w' => e = .returned (I (chainAdd b l)) ∧ w = w' := by
  have X0 := Below.refl w.heap.size w
  refine enter Try.func169 rfl Try.ntmps169 rfl ?_
  refine w_seq ?_
  refine w_region ?_
  have S := Sep.nil w
  have B := Below.refl w.heap.size w
  have Hb := Nat.le_refl w.heap.size
  refine t_assign rfl ?_ rfl
  refine t_done ?_
  refine x_seq ?_
  refine w_seq ?_
  refine w_seq ?_
  refine w_region ?_
  refine t_move rfl ?_ rfl
  refine t_len e_int (by assumption) rfl rfl ?_ rfl
  refine t_move rfl ?_ rfl
  refine t_done ?_
  refine x_seq ?_
  refine w_block ?_
  refine w_loop (X := Nat × Int) (fun x wq => (fun k c => k ≤ l.length ∧ c = chainAdd b (l.take k) ∧ w = wq) x.1 x.2) (fun x => (fun k c => [(9, I ((k : Int))), (0, I c), (4, I 0), (7, v), (8, I ((l.length : Int)))]) x.1 x.2) (fun x => (fun k c => l.length - k) x.1 x.2) (0, b) ?_ ⟨rfl, rfl, rfl, rfl, rfl, trivial⟩ ?_
  · exact ⟨by omega, rfl, rfl⟩
  · rintro ⟨k, c⟩ w1 hI
    try dsimp only at hI ⊢
    obtain ⟨hk, hc, rfl⟩ := hI
    refine w_seq ?_
    refine w_region ?_
    refine t_lss rfl rfl ?_ rfl
    refine t_done ?_
    refine x_seq ?_
    refine w_seq ?_
    refine w_if rfl ?_ ?_
    · intro hlt
      refine w_skip ?_
      refine x_seq ?_
      refine w_seq ?_
      refine w_block ?_
      refine w_seq ?_
      refine w_region ?_
      obtain ⟨e11, he11⟩ : ∃ e, (l)[k]? = some e := getx (by omega)
      refine t_idx e_int (k := k) (by assumption) he11 B rfl rfl (by first | rfl | omega) ?_ rfl
      intro p11 hp11
      refine t_ldi (by assumption) ab_int B rfl ?_ rfl
      refine t_assign rfl ?_ rfl
      refine t_done ?_
      refine x_seq ?_
      refine w_region ?_
      refine t_move rfl ?_ rfl
      refine t_move rfl ?_ rfl
      refine t_calls Try.call156 rfl (impl_AddMod _ _ _) ?_ rfl rfl
      refine t_assign rfl ?_ rfl
      refine t_done ?_
      refine x_block_normal ?_
      refine x_seq ?_
      refine w_region ?_
      refine t_add rfl rfl (by omega) ?_ rfl
      refine t_move rfl ?_ rfl
      refine t_done ?_
      refine x_round (I := (fun x wq => (fun k c => k ≤ l.length ∧ c = chainAdd b (l.take k) ∧ w = wq) x.1 x.2)) (F := (fun x => (fun k c => [(9, I ((k : Int))), (0, I c), (4, I 0), (7, v), (8, I ((l.length : Int)))]) x.1 x.2)) (μ := (fun x => (fun k c => l.length - k) x.1 x.2)) (k + 1, addM c e11) ?_ (by exact ⟨rfl, rfl, rfl, rfl, rfl, trivial⟩) (by (try dsimp only); omega)
      try dsimp only
      exact ⟨by omega, by rw [chain_succ he11, hc], rfl⟩
    · intro hge
      refine w_exit ?_
      refine x_then_exit ?_
      refine x_then_exit ?_
      refine x_block_exit ?_
      refine x_seq ?_
      refine w_seq ?_
      refine w_region ?_
      refine t_move rfl ?_ rfl
      refine t_assign rfl ?_ rfl
      refine t_done ?_
      refine x_seq ?_
      refine w_ret ?_
      refine x_ret1 rfl rfl ?_
      exact ⟨ret_int (by rw [hc, List.take_of_length_le (by omega)]), rfl⟩
theorem spec_ChainAdd (b : Int) (l : List Int) (v : Value) (w : World) (h : SlR intT w v l) (hz : l.length ≤ 16777216) : Calls Try.prog 167 #[I b, v] w fun e w' => e = .returned (I (chainAdd b l)) ∧ w = w' := by
  have X0 := Below.refl w.heap.size w
  refine enter Try.func167 rfl Try.ntmps167 rfl ?_
  refine w_seq ?_
  refine w_region ?_
  have S := Sep.nil w
  have B := Below.refl w.heap.size w
  have Hb := Nat.le_refl w.heap.size
  refine t_assign rfl ?_ rfl
  refine t_done ?_
  refine x_seq ?_
  refine w_seq ?_
  refine w_seq ?_
  refine w_region ?_
  refine t_assign rfl ?_ rfl
  refine t_done ?_
  refine x_seq ?_
  refine w_block ?_
  refine w_loop (X := Nat × Int) (fun x wq => (fun k c => k ≤ l.length ∧ c = chainAdd b (l.take k) ∧ w = wq) x.1 x.2) (fun x => (fun k c => [(5, I ((k : Int))), (0, I c), (1, v), (4, I 0)]) x.1 x.2) (fun x => (fun k c => l.length - k) x.1 x.2) (0, b) ?_ ⟨rfl, rfl, rfl, rfl, trivial⟩ ?_
  · exact ⟨by omega, rfl, rfl⟩
  · rintro ⟨k, c⟩ w2 hI
    try dsimp only at hI ⊢
    obtain ⟨hk, hc, rfl⟩ := hI
    refine w_seq ?_
    refine w_seq ?_
    refine w_region ?_
    refine t_move rfl ?_ rfl
    refine t_move rfl ?_ rfl
    refine t_len e_int (by assumption) rfl rfl ?_ rfl
    refine t_lss rfl rfl ?_ rfl
    refine t_done ?_
    refine x_seq ?_
    refine w_if rfl ?_ ?_
    · intro hlt
      refine w_skip ?_
      refine x_seq ?_
      refine w_seq ?_
      refine w_block ?_
      refine w_region ?_
      refine t_move rfl ?_ rfl
      refine t_move rfl ?_ rfl
      refine t_move rfl ?_ rfl
      obtain ⟨e15, he15⟩ : ∃ e, (l)[k]? = some e := getx (by omega)
      refine t_idx e_int (k := k) (by assumption) he15 B rfl rfl (by first | rfl | omega) ?_ rfl
      intro p15 hp15
      refine t_ldi (by assumption) ab_int B rfl ?_ rfl
      refine t_calls Try.call173 rfl (spec_AddMod _ _ _) ?_ rfl rfl
      refine t_assign rfl ?_ rfl
      refine t_done ?_
      refine x_block_normal ?_
      refine x_seq ?_
      refine w_region ?_
      refine t_move rfl ?_ rfl
      refine t_add rfl rfl (by omega) ?_ rfl
      refine t_assign rfl ?_ rfl
      refine t_done ?_
      refine x_round (I := (fun x wq => (fun k c => k ≤ l.length ∧ c = chainAdd b (l.take k) ∧ w = wq) x.1 x.2)) (F := (fun x => (fun k c => [(5, I ((k : Int))), (0, I c), (1, v), (4, I 0)]) x.1 x.2)) (μ := (fun x => (fun k c => l.length - k) x.1 x.2)) (k + 1, addM c e15) ?_ (by exact ⟨rfl, rfl, rfl, rfl, trivial⟩) (by (try dsimp only); omega)
      try dsimp only
      exact ⟨by omega, by rw [chain_succ he15, hc], rfl⟩
    · intro hge
      refine w_exit ?_
      refine x_then_exit ?_
      refine x_then_exit ?_
      refine x_block_exit ?_
      refine x_seq ?_
      refine w_seq ?_
      refine w_region ?_
      refine t_move rfl ?_ rfl
      refine t_assign rfl ?_ rfl
      refine t_done ?_
      refine x_seq ?_
      refine w_ret ?_
      refine x_ret1 rfl rfl ?_
      exact ⟨ret_int (by rw [hc, List.take_of_length_le (by omega)]), rfl⟩

theorem impl_macsOf (l : List Hop) (v : Value) (w : World) (h : SlR hopT w v l) (hz : l.length ≤ 1048576) : Calls Try.prog 170 #[v] w fun e w' => ∃ v fp, e = .returned v ∧ SlO intT 3 w.heap.size w' v (l.map Hop.mac) fp ∧ Below w.heap.size w w' := by
  have X0 := Below.refl w.heap.size w
  refine enter Try.func170 rfl Try.ntmps170 rfl ?_
  refine w_seq ?_
  refine w_region ?_
  have S := Sep.nil w
  have B := Below.refl w.heap.size w
  have Hb := Nat.le_refl w.heap.size
  refine t_assign rfl ?_ rfl
  refine t_done ?_
  refine x_seq ?_
  refine w_seq ?_
  refine w_region ?_
  refine t_assign rfl ?_ rfl
  refine t_done ?_
  refine x_seq ?_
  refine w_seq ?_
  refine w_seq ?_
  refine w_region ?_
  refine t_move rfl ?_ rfl
  refine t_len e_hop (by assumption) rfl rfl ?_ rfl
  refine t_move rfl ?_ rfl
  refine t_done ?_
  refine x_seq ?_
  refine w_block ?_
  refine w_loop (X := Nat × Value) (fun x wq => (fun k q => k ≤ l.length ∧ Below w.heap.size w wq ∧ Sep w.heap.size wq [slO intT 3 q ((l.take k).map Hop.mac)]) x.1 x.2) (fun x => (fun k q => [(8, I ((k : Int))), (3, q), (2, .slice none 0 0), (6, v), (7, I ((l.length : Int)))]) x.1 x.2) (fun x => (fun k q => l.length - k) x.1 x.2) (0, .slice none 0 0) ?_ ⟨rfl, rfl, rfl, rfl, rfl, trivial⟩ ?_
  · exact ⟨by omega, B, S.addNil⟩
  · rintro ⟨k, q⟩ w3 hI
    try dsimp only at hI ⊢
    obtain ⟨hk, B, S⟩ := hI
    have hml : ((l.take k).map Hop.mac).length = k := by rw [List.length_map, List.length_take]; omega
    refine w_seq ?_
    refine w_region ?_
    refine t_lss rfl rfl ?_ rfl
    refine t_done ?_
    refine x_seq ?_
    refine w_seq ?_
    refine w_if rfl ?_ ?_
    · intro hlt
      refine w_skip ?_
      refine x_seq ?_
      refine w_seq ?_
      refine w_block ?_
      refine w_seq ?_
      refine w_region ?_
      obtain ⟨e10, he10⟩ : ∃ e, (l)[k]? = some e := getx (by omega)
      refine t_idx e_hop (k := k) (by assumption) he10 B rfl rfl (by first | rfl | omega) ?_ rfl
      intro p10 hp10
      refine t_lda (by assumption) ab_hop sb_hop B rfl ?_ rfl
      intro v11 hv11
      obtain rfl := hop_va hv11
      refine t_alloc S z_hop rfl ?_ rfl rfl
      intro g5 w4 x5 S
      have B := bx Hb B x5
      refine t_stn S sb_hop rfl rfl rfl rfl (by simp [Value.oneCell']) ?_
      intro w6 b7 S
      have B := B.trans b7
      refine t_done ?_
      refine x_seq ?_
      refine w_region ?_
      refine t_move rfl ?_ rfl
      refine t_fldx fb_hop_4 rfl rfl ?_ rfl
      refine t_bx1 S.box ab_int rfl rfl ?_ rfl
      refine t_lit (T := intT) (l := [e10.mac]) (css := ([e10.mac]).map fun a => [I a]) int_flat S (fun w => bs_int1 _ w) rfl rfl rfl rfl (by simp [maxLen]) (litR_int _) ?_ rfl rfl
      intro u15 w8 x9 S
      have B := bx Hb B x9
      have hR := S.sl
      have S := S.f2
      refine t_cat int_flat e_int S hR rfl rfl rfl (by first | omega | (simp [-List.length_flatMap]; omega)) (by (simp [maxLen, -List.length_flatMap]; try omega)) ?_ rfl
      intro v16 w10 x11 S
      have B := B.trans x11
      clear hR
      have S := S.f1
      have S := S.tail
      refine t_assign rfl ?_ rfl
      refine t_done ?_
      refine x_block_normal ?_
      refine x_seq ?_
      refine w_region ?_
      refine t_add rfl rfl (by omega) ?_ rfl
      refine t_move rfl ?_ rfl
      refine t_done ?_
      have S := S.f1
      have S := S.tail
      refine x_round (I := (fun x wq => (fun k q => k ≤ l.length ∧ Below w.heap.size w wq ∧ Sep w.heap.size wq [slO intT 3 q ((l.take k).map Hop.mac)]) x.1 x.2)) (F := (fun x => (fun k q => [(8, I ((k : Int))), (3, q), (2, .slice none 0 0), (6, v), (7, I ((l.length : Int)))]) x.1 x.2)) (μ := (fun x => (fun k q => l.length - k) x.1 x.2)) (k + 1, v16) ?_ (by exact ⟨rfl, rfl, rfl, rfl, rfl, trivial⟩) (by (try dsimp only); omega)
      try dsimp only
      refine ⟨by omega, B, ?_⟩
      rw [take_succ he10, List.map_append]
      exact S
    · intro hge
      refine w_exit ?_
      refine x_then_exit ?_
      refine x_then_exit ?_
      refine x_block_exit ?_
      refine x_seq ?_
      refine w_seq ?_
      refine w_region ?_
      refine t_move rfl ?_ rfl
      refine t_assign rfl ?_ rfl
      refine t_done ?_
      refine x_seq ?_
      refine w_ret ?_
      refine x_ret1 rfl rfl ?_
      have : k = l.length := by omega
      subst this
      rw [List.take_length] at S
      obtain ⟨fp, hO⟩ := (S.mono X0.size).head
      exact ⟨_, fp, rfl, hO, ext_trans X0 B⟩
theorem spec_l9Seals (s : Seg) (v : Value) (i : Int) (w : World) (h : VA segT w v s) (hz : s.hops.length ≤ 1048576) (hi : 0 ≤ i ∧ i ≤ s.hops.length) : Calls Try.prog 168 #[v, I i] w fun e w' => ∃ v fp, e = .returned v ∧ SlO intT 3 w.heap.size w' v ((s.hops.take i.toNat).map Hop.mac) fp ∧ Below w.heap.size w w' := by
  have X0 := Below.refl w.heap.size w
  refine enter Try.func168 rfl Try.ntmps168 rfl ?_
  refine w_seq ?_
  refine w_region ?_
  refine t_boxr (by assumption) rfl ?_ rfl rfl
  intro p2 w12 x13 hp2
  replace h := h.below x13
  have X0 := ext_trans X0 x13
  have S := Sep.nil w12
  have B := Below.refl w12.heap.size w12
  have Hb := Nat.le_refl w12.heap.size
  refine t_assign rfl ?_ rfl
  refine t_done ?_
  refine x_seq ?_
  refine w_seq ?_
  refine w_region ?_
  refine t_lit (T := intT) (css := []) (l := []) int_flat S bs_int0 rfl rfl rfl rfl (Nat.zero_le _) litR_nil ?_ rfl rfl
  intro u7 w14 x15 S
  have B := bx Hb B x15
  refine t_assign rfl ?_ rfl
  refine t_done ?_
  refine x_seq ?_
  refine w_seq ?_
  refine w_seq ?_
  refine w_region ?_
  refine t_assign rfl ?_ rfl
  refine t_done ?_
  refine x_seq ?_
  refine w_block ?_
  refine w_loop (X := Nat × Value) (fun x wq => (fun k v => k ≤ i.toNat ∧ Below w12.heap.size w12 wq ∧ Sep w12.heap.size wq [slO intT 3 v ((s.hops.take k).map Hop.mac)]) x.1 x.2) (fun x => (fun k v => [(6, I ((k : Int))), (5, v), (1, I i), (2, p2), (4, .slice none 0 0)]) x.1 x.2) (fun x => (fun k v => i.toNat - k) x.1 x.2) (0, u7) ?_ ⟨rfl, rfl, rfl, rfl, rfl, trivial⟩ ?_
  · exact ⟨by omega, B, S⟩
  · rintro ⟨k, v⟩ w16 hI
    try dsimp only at hI ⊢
    obtain ⟨hk, B, S⟩ := hI
    have hml : ((s.hops.take k).map Hop.mac).length = k := by rw [List.length_map, List.length_take]; omega
    refine w_seq ?_
    refine w_seq ?_
    refine w_region ?_
    refine t_move rfl ?_ rfl
    refine t_move rfl ?_ rfl
    refine t_lss rfl rfl ?_ rfl
    refine t_done ?_
    refine x_seq ?_
    refine w_if rfl ?_ ?_
    · intro hlt
      refine w_skip ?_
      refine x_seq ?_
      refine w_seq ?_
      refine w_block ?_
      refine w_region ?_
      refine t_move rfl ?_ rfl
      refine t_fld ln_seg_2 (by assumption) fb_seg_2 rfl ?_ rfl
      intro p14 hp14
      refine t_lds (by assumption) ab_s_hop B rfl ?_ rfl
      intro v15 hv15
      refine t_move rfl ?_ rfl
      obtain ⟨e17, he17⟩ : ∃ e, (s.hops)[k]? = some e := getx (by omega)
      refine t_idx e_hop (k := k) (by assumption) he17 B rfl rfl (by first | rfl | omega) ?_ rfl
      intro p17 hp17
      refine t_fld ln_hop_4 (by assumption) fb_hop_4 rfl ?_ rfl
      intro p18 hp18
      refine t_ldi (by assumption) ab_int B rfl ?_ rfl
      refine t_lit (T := intT) (l := [e17.mac]) (css := ([e17.mac]).map fun a => [I a]) int_flat S (fun w => bs_int1 _ w) rfl rfl rfl rfl (by simp [maxLen]) (litR_int _) ?_ rfl rfl
      intro u20 w17 x18 S
      have B := bx Hb B x18
      have hR := S.sl
      have S := S.f1
      refine t_cat int_flat e_int S hR rfl rfl rfl (by first | omega | (simp [-List.length_flatMap]; omega)) (by (simp [maxLen, -List.length_flatMap]; try omega)) ?_ rfl
      intro v21 w19 x20 S
      have B := B.trans x20
      clear hR
      have S := S.f1
      have S := S.tail
      refine t_assign rfl ?_ rfl
      refine t_done ?_
      refine x_block_normal ?_
      refine x_seq ?_
      refine w_region ?_
      refine t_move rfl ?_ rfl
      refine t_add rfl rfl (by omega) ?_ rfl
      refine t_assign rfl ?_ rfl
      refine t_done ?_
      refine x_round (I := (fun x wq => (fun k v => k ≤ i.toNat ∧ Below w12.heap.size w12 wq ∧ Sep w12.heap.size wq [slO intT 3 v ((s.hops.take k).map Hop.mac)]) x.1 x.2)) (F := (fun x => (fun k v => [(6, I ((k : Int))), (5, v), (1, I i), (2, p2), (4, .slice none 0 0)]) x.1 x.2)) (μ := (fun x => (fun k v => i.toNat - k) x.1 x.2)) (k + 1, v21) ?_ (by exact ⟨rfl, rfl, rfl, rfl, rfl, trivial⟩) (by (try dsimp only); omega)
      try dsimp only
      refine ⟨by omega, B, ?_⟩
      rw [take_succ he17, List.map_append]
      exact S
    · intro hge
      refine w_exit ?_
      refine x_then_exit ?_
      refine x_then_exit ?_
      refine x_block_exit ?_
      refine x_seq ?_
      refine w_seq ?_
      refine w_region ?_
      refine t_move rfl ?_ rfl
      refine t_assign rfl ?_ rfl
      refine t_done ?_
      refine x_seq ?_
      refine w_ret ?_
      refine x_ret1 rfl rfl ?_
      have : k = i.toNat := by omega
      subst this
      obtain ⟨fp, hO⟩ := (S.mono X0.size).head
      exact ⟨_, fp, rfl, hO, ext_trans X0 B⟩
def segBeta (s : Seg) (i : Int) : Int := if inR i 0 s.hops.length then chainAdd s.beta ((s.hops.take i.toNat).map Hop.mac) else 0
theorem impl_BetaAt (s : Seg) (v : Value) (i : Int) (w : World) (h : VA segT w v s) (hz : s.hops.length ≤ 1048576) : Calls Try.prog 145 #[v, I i] w fun e w' => e = .returned (I (segBeta s i)) ∧ Below w.heap.size w w' := by
  have hml : ((s.hops.take i.toNat).map Hop.mac).length ≤ 1048576 := by rw [List.length_map, List.length_take]; omega
  have hml2 : (s.hops.take i.toNat).length ≤ 1048576 := by rw [List.length_take]; omega
  have X0 := Below.refl w.heap.size w
  refine enter Try.func145 rfl Try.ntmps145 rfl ?_
  refine w_seq ?_
  refine w_region ?_
  refine t_boxr (by assumption) rfl ?_ rfl rfl
  intro p2 w21 x22 hp2
  replace h := h.below x22
  have X0 := ext_trans X0 x22
  have S := Sep.nil w21
  have B := Below.refl w21.heap.size w21
  have Hb := Nat.le_refl w21.heap.size
  refine t_assign rfl ?_ rfl
  refine t_done ?_
  refine x_seq ?_
  refine w_seq ?_
  refine w_seq ?_
  refine w_region ?_
  refine t_move rfl ?_ rfl
  refine t_fld ln_seg_2 (by assumption) fb_seg_2 rfl ?_ rfl
  intro p6 hp6
  refine t_lds (by assumption) ab_s_hop B rfl ?_ rfl
  intro v7 hv7
  refine t_len e_hop (by assumption) rfl rfl ?_ rfl
  refine t_calls Try.call75 rfl (impl_InRange _ _ _ _) ?_ rfl rfl
  refine t_notb rfl ?_ rfl
  refine t_done ?_
  refine x_seq ?_
  refine w_ifb rfl ?_ ?_
  · intro h1
    refine w_seq ?_
    refine w_region ?_
    refine t_assign rfl ?_ rfl
    refine t_done ?_
    refine x_seq ?_
    refine w_ret ?_
    refine x_then_ret ?_
    refine x_ret1 rfl rfl ?_
    have h1' : inR i 0 s.hops.length = false := by simpa using h1
    exact ⟨ret_int (by simp [segBeta, h1']), ext_trans X0 B⟩
  · intro h1
    have h1' : inR i 0 s.hops.length = true := by simpa using h1
    have r1 := inR_iff.1 h1'
    refine w_skip ?_
    refine x_seq ?_
    refine w_seq ?_
    refine w_draw (.st .take 0 (.st .take 1 (.st .take 2 (.st .take 3 (.st .take 4 (.st .take 5 (.st .run 6 (.st .run 7 (.st .take 8 .done))))))))) mixed (by kernel_rfl) ?_
    intro w23 x24
    have B := bx Hb B x24
    have S := S.below x24
    refine t_fld ln_seg_1 (by assumption) fb_seg_1 rfl ?_ rfl
    intro p11 hp11
    refine t_ldi (by assumption) ab_int B rfl ?_ rfl
    refine t_fld ln_seg_2 (by assumption) fb_seg_2 rfl ?_ rfl
    intro p13 hp13
    refine t_lds (by assumption) ab_s_hop B rfl ?_ rfl
    intro v14 hv14
    refine t_move rfl ?_ rfl
    refine t_slt e_hop (k := (i.toNat)) (by assumption) rfl rfl (by first | rfl | omega) (by omega) ?_ rfl
    intro v16 hv16
    refine t_call Try.call170 rfl (impl_macsOf _ _ _ (by first | assumption | exact SlR.below (by assumption) B) (by omega)) ?_ rfl rfl
    rintro e w25 ⟨v17, fpv17, rfl, hOv17, x26⟩
    refine ⟨_, rfl, x26, ?_⟩
    have S := S.add (o := slO _ _ _ _) x26 hOv17
    have B := bx Hb B x26
    refine t_calls Try.call169 rfl (impl_ChainAdd _ _ _ _ (S.sl) (by omega)) ?_ rfl rfl
    refine t_assign rfl ?_ rfl
    refine t_done' ?_
    refine x_seq ?_
    refine w_ret ?_
    refine x_ret1 rfl rfl ?_
    exact ⟨ret_int (by simp [segBeta, h1']), ext_trans X0 B⟩
theorem spec_BetaAt (s : Seg) (v : Value) (i : Int) (w : World) (h : VA segT w v s) (hz : s.hops.length ≤ 1048576) : Calls Try.prog 143 #[v, I i] w fun e w' => e = .returned (I (segBeta s i)) ∧ Below w.heap.size w w' := by
  have hml : ((s.hops.take i.toNat).map Hop.mac).length ≤ 1048576 := by rw [List.length_map, List.length_take]; omega
  have hml2 : (s.hops.take i.toNat).length ≤ 1048576 := by rw [List.length_take]; omega
  have X0 := Below.refl w.heap.size w
  refine enter Try.func143 rfl Try.ntmps143 rfl ?_
  refine w_seq ?_
  refine w_region ?_
  refine t_boxr (by assumption) rfl ?_ rfl rfl
  intro p2 w27 x28 hp2
  replace h := h.below x28
  have X0 := ext_trans X0 x28
  have S := Sep.nil w27
  have B := Below.refl w27.heap.size w27
  have Hb := Nat.le_refl w27.heap.size
  refine t_assign rfl ?_ rfl
  refine t_done ?_
  refine x_seq ?_
  refine w_seq ?_
  refine w_seq ?_
  refine w_region ?_
  refine t_move rfl ?_ rfl
  refine t_fld ln_seg_2 (by assumption) fb_seg_2 rfl ?_ rfl
  intro p6 hp6
  refine t_lds (by assumption) ab_s_hop B rfl ?_ rfl
  intro v7 hv7
  refine t_len e_hop (by assumption) rfl rfl ?_ rfl
  refine t_calls Try.call73 rfl (spec_l1In _ _ _ _) ?_ rfl rfl
  refine t_notb rfl ?_ rfl
  refine t_done ?_
  refine x_seq ?_
  refine w_ifb rfl ?_ ?_
  · intro h1
    refine w_seq ?_
    refine w_region ?_
    refine t_assign rfl ?_ rfl
    refine t_done ?_
    refine x_seq ?_
    refine w_ret ?_
    refine x_then_ret ?_
    refine x_ret1 rfl rfl ?_
    have h1' : inR i 0 s.hops.length = false := by simpa using h1
    exact ⟨ret_int (by simp [segBeta, h1']), ext_trans X0 B⟩
  · intro h1
    have h1' : inR i 0 s.hops.length = true := by simpa using h1
    have r1 := inR_iff.1 h1'
    refine w_skip ?_
    refine x_seq ?_
    refine w_seq ?_
    refine w_draw (.st .take 0 (.st .take 1 (.st .take 2 (.st .take 3 (.st .run 4 (.st .run 5 (.st .take 6 .done))))))) mixed (by kernel_rfl) ?_
    intro w29 x30
    have B := bx Hb B x30
    have S := S.below x30
    refine t_fld ln_seg_1 (by assumption) fb_seg_1 rfl ?_ rfl
    intro p11 hp11
    refine t_ldi (by assumption) ab_int B rfl ?_ rfl
    refine t_lda (by assumption) ab_seg sb_seg B rfl ?_ rfl
    intro v13 hv13
    obtain ⟨v13_2, rfl, hv13_2⟩ := seg_va hv13
    refine t_move rfl ?_ rfl
    refine t_call Try.call168 rfl (spec_l9Seals _ _ _ _ (by first | assumption | exact VA.below (by assumption) B) (by omega) (by omega)) ?_ rfl rfl
    rintro e w31 ⟨v15, fpv15, rfl, hOv15, x32⟩
    refine ⟨_, rfl, x32, ?_⟩
    have S := S.add (o := slO _ _ _ _) x32 hOv15
    have B := bx Hb B x32
    refine t_calls Try.call167 rfl (spec_ChainAdd _ _ _ _ (S.sl) (by omega)) ?_ rfl rfl
    refine t_assign rfl ?_ rfl
    refine t_done' ?_
    refine x_seq ?_
    refine w_ret ?_
    refine x_ret1 rfl rfl ?_
    exact ⟨ret_int (by simp [segBeta, h1']), ext_trans X0 B⟩

theorem impl_copyHops (l : List Hop) (v : Value) (w : World) (h : SlR hopT w v l) (hz : l.length ≤ 1048576) : Calls Try.prog 146 #[v] w fun e w' => ∃ v fp, e = .returned v ∧ SlO hopT 101 w.heap.size w' v l fp ∧ Below w.heap.size w w' := by
  have X0 := Below.refl w.heap.size w
  refine enter Try.func146 rfl Try.ntmps146 rfl ?_
  refine w_seq ?_
  refine w_region ?_
  have S := Sep.nil w
  have B := Below.refl w.heap.size w
  have Hb := Nat.le_refl w.heap.size
  refine t_assign rfl ?_ rfl
  refine t_done ?_
  refine x_seq ?_
  refine w_seq ?_
  refine w_region ?_
  refine t_lit (T := hopT) (css := []) (l := []) hop_flat S bs_hop0 rfl rfl rfl rfl (Nat.zero_le _) litR_nil ?_ rfl rfl
  intro u3 w33 x34 S
  have B := bx Hb B x34
  refine t_move rfl ?_ rfl
  refine t_cat hop_flat e_hop S (by first | assumption | exact SlR.below (by assumption) B) rfl rfl rfl (by first | omega | (simp [-List.length_flatMap]; omega)) (by (simp [maxLen, -List.length_flatMap]; try omega)) ?_ rfl
  intro v5 w35 x36 S
  have B := B.trans x36
  refine t_assign rfl ?_ rfl
  refine t_done ?_
  refine x_seq ?_
  refine w_ret ?_
  refine x_ret1 rfl rfl ?_
  obtain ⟨fp, hO⟩ := (S.mono X0.size).head
  exact ⟨_, fp, rfl, hO, ext_trans X0 B⟩
theorem rev_snoc {l : List Hop} {i : Int} {x : Hop} (h0 : 0 ≤ i) (h : l[i.toNat]? = some x) : (l.drop (i - 1 + 1).toNat).reverse = (l.drop (i + 1).toNat).reverse ++ [x] := by
  have h2 := List.getElem?_eq_some_iff.1 h
  rw [show (i - 1 + 1).toNat = i.toNat by omega, show (i + 1).toNat = i.toNat + 1 by omega, List.drop_eq_getElem_cons h2.1, List.reverse_cons, h2.2]
theorem impl_reversedHops (l : List Hop) (v : Value) (w : World) (h : SlR hopT w v l) (hz : l.length ≤ 1048576) : Calls Try.prog 147 #[v] w fun e w' => ∃ v fp, e = .returned v ∧ SlO hopT 101 w.heap.size w' v l.reverse fp ∧ Below w.heap.size w w' := by
  have X0 := Below.refl w.heap.size w
  refine enter Try.func147 rfl Try.ntmps147 rfl ?_
  refine w_seq ?_
  refine w_region ?_
  have S := Sep.nil w
  have B := Below.refl w.heap.size w
  have Hb := Nat.le_refl w.heap.size
  refine t_assign rfl ?_ rfl
  refine t_done ?_
  refine x_seq ?_
  refine w_seq ?_
  refine w_region ?_
  refine t_assign rfl ?_ rfl
  refine t_done ?_
  refine x_seq ?_
  refine w_seq ?_
  refine w_seq ?_
  refine w_region ?_
  refine t_move rfl ?_ rfl
  refine t_len e_hop (by assumption) rfl rfl ?_ rfl
  refine t_sub rfl rfl (by omega) ?_ rfl
  refine t_assign rfl ?_ rfl
  refine t_done ?_
  refine x_seq ?_
  refine w_block ?_
  refine w_loop (X := Int × Value) (fun x wq => (fun i u => -1 ≤ i ∧ i ≤ (l.length : Int) - 1 ∧ Below w.heap.size w wq ∧ Sep w.heap.size wq [slO hopT 101 u (l.drop (i + 1).toNat).reverse]) x.1 x.2) (fun x => (fun i u => [(4, I i), (3, u), (0, v), (2, .slice none 0 0)]) x.1 x.2) (fun x => (fun i u => (i + 1).toNat) x.1 x.2) ((l.length : Int) - 1, .slice none 0 0) ?_ ⟨rfl, rfl, rfl, rfl, trivial⟩ ?_
  · refine ⟨by show -1 ≤ (l.length : Int) - 1; omega, by show (l.length : Int) - 1 ≤ _; omega, B, ?_⟩
    show Sep _ _ [slO hopT _ _ (l.drop ((l.length : Int) - 1 + 1).toNat).reverse]
    rw [List.drop_of_length_le (by omega)]
    exact S.addNil
  · rintro ⟨i, u⟩ w37 hI
    try dsimp only at hI ⊢
    obtain ⟨hk, hk2, B, S⟩ := hI
    have hml : (l.drop (i + 1).toNat).reverse.length ≤ 1048576 := by rw [List.length_reverse, List.length_drop]; omega
    refine w_seq ?_
    refine w_seq ?_
    refine w_region ?_
    refine t_move rfl ?_ rfl
    refine t_geq rfl rfl ?_ rfl
    refine t_done ?_
    refine x_seq ?_
    refine w_if rfl ?_ ?_
    · intro hlt
      refine w_skip ?_
      refine x_seq ?_
      refine w_seq ?_
      refine w_block ?_
      refine w_region ?_
      refine t_move rfl ?_ rfl
      refine t_move rfl ?_ rfl
      refine t_move rfl ?_ rfl
      obtain ⟨e15, he15⟩ : ∃ e, (l)[i.toNat]? = some e := getx (by omega)
      refine t_idx e_hop (k := i.toNat) (by assumption) he15 B rfl rfl (by first | rfl | omega) ?_ rfl
      intro p15 hp15
      refine t_lda (by assumption) ab_hop sb_hop B rfl ?_ rfl
      intro v16 hv16
      obtain rfl := hop_va hv16
      refine t_lit (T := hopT) (l := [(e15 : Hop)]) (css := [[I e15.ia, I e15.ing, I e15.eg, I e15.exp, I e15.mac]]) hop_flat S (fun w => bs_hop1 _ _ _ _ _ w) rfl rfl rfl rfl (by simp [maxLen]) (litR_one fun _ => rfl) ?_ rfl rfl
      intro u17 w38 x39 S
      have B := bx Hb B x39
      have hR := S.sl
      have S := S.f1
      refine t_cat hop_flat e_hop S hR rfl rfl rfl (by first | omega | (simp [-List.length_flatMap]; omega)) (by (simp [maxLen, -List.length_flatMap]; try omega)) ?_ rfl
      intro v18 w40 x41 S
      have B := B.trans x41
      clear hR
      have S := S.f1
      have S := S.tail
      refine t_assign rfl ?_ rfl
      refine t_done ?_
      refine x_block_normal ?_
      refine x_seq ?_
      refine w_region ?_
      refine t_move rfl ?_ rfl
      refine t_sub rfl rfl (by omega) ?_ rfl
      refine t_assign rfl ?_ rfl
      refine t_done ?_
      refine x_round (I := (fun x wq => (fun i u => -1 ≤ i ∧ i ≤ (l.length : Int) - 1 ∧ Below w.heap.size w wq ∧ Sep w.heap.size wq [slO hopT 101 u (l.drop (i + 1).toNat).reverse]) x.1 x.2)) (F := (fun x => (fun i u => [(4, I i), (3, u), (0, v), (2, .slice none 0 0)]) x.1 x.2)) (μ := (fun x => (fun i u => (i + 1).toNat) x.1 x.2)) (i - 1, v18) ?_ (by exact ⟨rfl, rfl, rfl, rfl, trivial⟩) (by (try dsimp only); omega)
      try dsimp only
      refine ⟨by omega, by omega, B, ?_⟩
      rw [rev_snoc (by omega) he15]
      exact S
    · intro hge
      refine w_exit ?_
      refine x_then_exit ?_
      refine x_then_exit ?_
      refine x_block_exit ?_
      refine x_seq ?_
      refine w_seq ?_
      refine w_region ?_
      refine t_move rfl ?_ rfl
      refine t_assign rfl ?_ rfl
      refine t_done ?_
      refine x_seq ?_
      refine w_ret ?_
      refine x_ret1 rfl rfl ?_
      have : i = -1 := by omega
      subst this
      obtain ⟨fp, hO⟩ := (S.mono X0.size).head
      exact ⟨_, fp, rfl, hO, ext_trans X0 B⟩

def makePart (s : Seg) (kind i : Int) : Part := if inR i 0 ((s.hops.length : Int) - 1) && inR kind 1 4 then (if isRev kind then ⟨kind, s.ts, segBeta s s.hops.length, (s.hops.drop i.toNat).reverse⟩ else ⟨kind, s.ts, segBeta s i, s.hops.drop i.toNat⟩) else ⟨0, 0, 0, []⟩
theorem make_none {s : Seg} {kind i : Int} (h : (inR i 0 ((s.hops.length : Int) - 1) && inR kind 1 4) = false) : makePart s kind i = ⟨0, 0, 0, []⟩ := by unfold makePart; rw [h]; rfl
theorem make_rev {s : Seg} {kind i : Int} (h1 : inR i 0 ((s.hops.length : Int) - 1) = true) (h2 : inR kind 1 4 = true) (h3 : isRev kind = true) : makePart s kind i = ⟨kind, s.ts, segBeta s s.hops.length, (s.hops.drop i.toNat).reverse⟩ := by unfold makePart; rw [h1, h2, h3]; rfl
theorem make_fwd {s : Seg} {kind i : Int} (h1 : inR i 0 ((s.hops.length : Int) - 1) = true) (h2 : inR kind 1 4 = true) (h3 : isRev kind = false) : makePart s kind i = ⟨kind, s.ts, segBeta s i, s.hops.drop i.toNat⟩ := by unfold makePart; rw [h1, h2, h3]; rfl
theorem impl_MakePart (s : Seg) (v : Value) (kind i : Int) (w : World) (h : VA segT w v s) (hz : s.hops.length ≤ 1048576) : Calls Try.prog 99 #[v, I kind, I i] w fun e w' => ∃ cs fp, e = .returned (.agg cs.toArray) ∧ partT.O w.heap.size w' cs (makePart s kind i) fp ∧ Below w.heap.size w w' := by
  have hdl : (s.hops.drop i.toNat).length ≤ 1048576 := by rw [List.length_drop]; omega
  have X0 := Below.refl w.heap.size w
  refine enter Try.func99 rfl Try.ntmps99 rfl ?_
  refine w_seq ?_
  refine w_region ?_
  refine t_boxr (by assumption) rfl ?_ rfl rfl
  intro p3 w42 x43 hp3
  replace h := h.below x43
  have X0 := ext_trans X0 x43
  have S := Sep.nil w42
  have B := Below.refl w42.heap.size w42
  have Hb := Nat.le_refl w42.heap.size
  refine t_alloc S z_part rfl ?_ rfl rfl
  intro g6 w44 x45 S
  have B := bx Hb B x45
  refine t_done ?_
  refine x_seq ?_
  refine w_seq ?_
  refine w_seq ?_
  refine w_region ?_
  refine t_move rfl ?_ rfl
  refine t_fld ln_seg_2 (by assumption) fb_seg_2 rfl ?_ rfl
  intro p9 hp9
  refine t_lds (by assumption) ab_s_hop B rfl ?_ rfl
  intro v10 hv10
  refine t_len e_hop (by assumption) rfl rfl ?_ rfl
  refine t_sub rfl rfl (by omega) ?_ rfl
  refine t_calls Try.call75 rfl (impl_InRange _ _ _ _) ?_ rfl rfl
  refine t_notb rfl ?_ rfl
  refine t_move rfl ?_ rfl
  refine t_part (t := 15) rfl ?_ ?_
  · intro h1
    have h1' : inR i 0 ((s.hops.length : Int) - 1) = false := by simpa using h1
    rw [make_none (by rw [h1']; rfl)]
    refine t_off rfl rfl rfl ?_ rfl
    refine t_off rfl rfl rfl ?_ rfl
    refine t_off rfl rfl rfl ?_ rfl
    refine t_pickt rfl rfl ?_ rfl
    refine t_done ?_
    refine x_seq ?_
    refine w_yes rfl ?_
    refine w_seq ?_
    refine w_region ?_
    refine t_build (fun w => b_part0 w) rfl ?_ rfl
    refine t_stn S sb_part rfl rfl rfl rfl (by simp [Value.oneCell']) ?_
    intro w46 b47 S
    have B := B.trans b47
    refine t_done ?_
    refine x_seq ?_
    refine w_ret ?_
    refine x_then_ret ?_
    refine x_retc rfl rfl S.box ab_part sb_part rfl ?_
    have S := Sep.addNil (T := hopT) (e := 101) S
    have S := S.partShut (x := ⟨0, 0, 0, []⟩)
    obtain ⟨fp, hO⟩ := (S.mono X0.size).head
    exact ⟨_, fp, rfl, hO, ext_trans X0 B⟩
  intro h1
  have h1' : inR i 0 ((s.hops.length : Int) - 1) = true := by simpa using h1
  have r1 := inR_iff.1 h1'
  refine t_on rfl rfl ?_
  refine t_move rfl ?_ rfl
  refine t_on rfl rfl ?_
  refine t_calls Try.call75 rfl (impl_InRange _ _ _ _) ?_ rfl rfl
  refine t_on rfl rfl ?_
  refine t_notb rfl ?_ rfl
  refine t_pickf rfl rfl ?_ rfl
  refine t_done ?_
  refine x_seq ?_
  refine w_ifb rfl ?_ ?_
  · intro h2
    have h2' : inR kind 1 4 = false := by simpa using h2
    rw [make_none (by rw [h2']; simp)]
    refine w_seq ?_
    refine w_region ?_
    refine t_build (fun w => b_part0 w) rfl ?_ rfl
    refine t_stn S sb_part rfl rfl rfl rfl (by simp [Value.oneCell']) ?_
    intro w48 b49 S
    have B := B.trans b49
    refine t_done ?_
    refine x_seq ?_
    refine w_ret ?_
    refine x_then_ret ?_
    refine x_retc rfl rfl S.box ab_part sb_part rfl ?_
    have S := Sep.addNil (T := hopT) (e := 101) S
    have S := S.partShut (x := ⟨0, 0, 0, []⟩)
    obtain ⟨fp, hO⟩ := (S.mono X0.size).head
    exact ⟨_, fp, rfl, hO, ext_trans X0 B⟩
  intro h2
  have h2' : inR kind 1 4 = true := by simpa using h2
  refine w_skip ?_
  refine x_seq ?_
  refine w_seq ?_
  refine w_draw (.st .take 0 (.st .take 1 (.st .take 2 (.st .take 3 (.st .take 4 (.st .take 6 (.st .take 7 (.st .take 8 (.st .take 9 (.alt (.st .run 5 (.alt (.st .run 10 (.st .take 11 (.st .run 12 (.st .fin 13 .done)))) (.st .run 12 (.st .run 10 (.st .take 11 (.st .fin 13 .done)))))) (.st .run 12 (.st .run 5 (.st .run 10 (.st .take 11 (.st .fin 13 .done))))))))))))))) mixed (by kernel_rfl) ?_
  intro w50 x51
  have B := bx Hb B x51
  have S := S.below x51
  refine t_move rfl ?_ rfl
  refine t_fld ln_seg_0 (by assumption) fb_seg_0 rfl ?_ rfl
  intro p22 hp22
  refine t_ldi (by assumption) ab_int B rfl ?_ rfl
  refine t_lda (by assumption) ab_seg sb_seg B rfl ?_ rfl
  intro v24 hv24
  obtain ⟨v24_2, rfl, hv24_2⟩ := seg_va hv24
  refine t_move rfl ?_ rfl
  refine t_fld ln_seg_2 (by assumption) fb_seg_2 rfl ?_ rfl
  intro p27 hp27
  refine t_lds (by assumption) ab_s_hop B rfl ?_ rfl
  intro v28 hv28
  refine t_move rfl ?_ rfl
  refine t_sld e_hop (k := (i.toNat)) (by assumption) rfl rfl (by first | rfl | omega) (by omega) ?_ rfl
  intro v30 hv30
  refine t_alt ?_ ?_
  refine t_callx Try.call145 rfl (impl_BetaAt _ _ _ _ (by first | assumption | exact VA.below (by assumption) B) (by omega)) ?_ rfl rfl
  intro w52 x53
  have B := bx Hb B x53
  have S := S.below x53
  refine t_alt ?_ ?_
  · refine t_call Try.call146 rfl (impl_copyHops _ _ _ (by first | assumption | exact SlR.below (by assumption) B) (by omega)) ?_ rfl rfl
    rintro e w54 ⟨v31, fpv31, rfl, hOv31, x55⟩
    refine ⟨_, rfl, x55, ?_⟩
    have S := S.add (o := slO _ _ _ _) x55 hOv31
    have B := bx Hb B x55
    obtain ⟨Av31, cv31, rfl, _⟩ := S.sl.form
    refine t_build (fun w => b_part _ _ _ _ _ _ w) rfl ?_ rfl
    refine t_alloc S z_part rfl ?_ rfl rfl
    intro g7 w56 x57 S
    have B := bx Hb B x57
    refine t_stn S sb_part rfl rfl rfl rfl (by intro zz hu; have hu : zz ∈ ([I kind, I s.ts, I (segBeta s i), .slice Av31 ((s.hops.drop (i.toNat))).length cv31] : List Value) := hu; simp only [List.mem_cons, List.not_mem_nil, or_false] at hu; rcases hu with rfl | rfl | rfl | rfl <;> first | rfl | exact (SlR.cells (by first | assumption | exact S.tail.sl | exact S.tail.tail.sl | exact S.tail.tail.tail.sl | exact S.tail.tail.tail.tail.sl | exact S.tail.tail.tail.tail.tail.sl | exact S.tail.tail.tail.tail.tail.tail.sl | exact S.tail.tail.tail.tail.tail.tail.tail.sl | exact S.tail.tail.tail.tail.tail.tail.tail.tail.sl)).2) ?_
    intro w58 b59 S
    have B := B.trans b59
    refine t_done' ?_
    refine x_seq ?_
    refine w_seq ?_
    refine w_seq ?_
    refine w_region ?_
    refine t_move rfl ?_ rfl
    refine t_calls Try.call117 rfl (impl_IsReversed _ _) ?_ rfl rfl
    refine t_done ?_
    refine x_seq ?_
    refine w_ifb rfl ?_ ?_
    · intro h3
      rw [make_rev h1' h2' h3]
      refine w_seq ?_
      refine w_region ?_
      refine t_lda (by assumption) ab_seg sb_seg B rfl ?_ rfl
      intro v35 hv35
      obtain ⟨v35_2, rfl, hv35_2⟩ := seg_va hv35
      refine t_fld ln_seg_2 (by assumption) fb_seg_2 rfl ?_ rfl
      intro p36 hp36
      refine t_lds (by assumption) ab_s_hop B rfl ?_ rfl
      intro v37 hv37
      refine t_len e_hop (by assumption) rfl rfl ?_ rfl
      refine t_callx Try.call145 rfl (impl_BetaAt _ _ _ _ (by first | assumption | exact VA.below (by assumption) B) (by omega)) ?_ rfl rfl
      intro w60 x61
      have B := bx Hb B x61
      have S := S.below x61
      refine t_fldx fb_part_2 rfl rfl ?_ rfl
      refine t_st1 S sb_int rfl rfl rfl rfl rfl ?_
      intro w62 b63 S
      have B := B.trans b63
      refine t_done ?_
      refine x_seq ?_
      refine w_region ?_
      refine t_fldx fb_part_3 rfl rfl ?_ rfl
      refine t_bx1 S.box ab_s_hop rfl rfl ?_ rfl
      refine t_call Try.call147 rfl (impl_reversedHops _ _ _ (S.tail.sl) (by omega)) ?_ rfl rfl
      rintro e w64 ⟨v43, fpv43, rfl, hOv43, x65⟩
      refine ⟨_, rfl, x65, ?_⟩
      have S := S.add (o := slO _ _ _ _) x65 hOv43
      have B := bx Hb B x65
      refine t_fldx fb_part_3 rfl rfl ?_ rfl
      obtain ⟨Av43, cv43, rfl, _⟩ := S.sl.form
      have S := S.f1
      refine t_st1 S sb_s_hop rfl rfl rfl rfl rfl ?_
      intro w66 b67 S
      have B := B.trans b67
      refine t_done ?_
      refine x_seq ?_
      refine w_seq ?_
      refine w_region ?_
      refine t_bxn S.box ab_part sb_part rfl rfl ?_ rfl
      have S := S.f3
      refine t_stn S sb_part rfl rfl rfl rfl (by intro zz hu; have hu : zz ∈ ([I kind, I s.ts, I (segBeta s (s.hops.length : Int)), .slice Av43 (((s.hops.drop (i.toNat))).reverse).length cv43] : List Value) := hu; simp only [List.mem_cons, List.not_mem_nil, or_false] at hu; rcases hu with rfl | rfl | rfl | rfl <;> first | rfl | exact (SlR.cells (by first | assumption | exact S.tail.sl | exact S.tail.tail.sl | exact S.tail.tail.tail.sl | exact S.tail.tail.tail.tail.sl | exact S.tail.tail.tail.tail.tail.sl | exact S.tail.tail.tail.tail.tail.tail.sl | exact S.tail.tail.tail.tail.tail.tail.tail.sl | exact S.tail.tail.tail.tail.tail.tail.tail.tail.sl)).2) ?_
      intro w68 b69 S
      have B := B.trans b69
      refine t_done ?_
      refine x_seq ?_
      refine w_ret ?_
      refine x_retc rfl rfl S.box ab_part sb_part rfl ?_
      have S := S.f2
      have S := S.partShut (x := ⟨kind, s.ts, segBeta s s.hops.length, (s.hops.drop i.toNat).reverse⟩)
      obtain ⟨fp, hO⟩ := (S.mono X0.size).head
      exact ⟨_, fp, rfl, hO, ext_trans X0 B⟩
    · intro h3
      rw [make_fwd h1' h2' h3]
      refine w_skip ?_
      refine x_seq ?_
      refine w_seq ?_
      refine w_region ?_
      refine t_bxn S.box ab_part sb_part rfl rfl ?_ rfl
      have S := S.f2
      refine t_stn S sb_part rfl rfl rfl rfl (by intro zz hu; have hu : zz ∈ ([I kind, I s.ts, I (segBeta s i), .slice Av31 ((s.hops.drop (i.toNat))).length cv31] : List Value) := hu; simp only [List.mem_cons, List.not_mem_nil, or_false] at hu; rcases hu with rfl | rfl | rfl | rfl <;> first | rfl | exact (SlR.cells (by first | assumption | exact S.tail.sl | exact S.tail.tail.sl | exact S.tail.tail.tail.sl | exact S.tail.tail.tail.tail.sl | exact S.tail.tail.tail.tail.tail.sl | exact S.tail.tail.tail.tail.tail.tail.sl | exact S.tail.tail.tail.tail.tail.tail.tail.sl | exact S.tail.tail.tail.tail.tail.tail.tail.tail.sl)).2) ?_
      intro w70 b71 S
      have B := B.trans b71
      refine t_done ?_
      refine x_seq ?_
      refine w_ret ?_
      refine x_retc rfl rfl S.box ab_part sb_part rfl ?_
      have S := S.f2
      have S := S.partShut (x := ⟨kind, s.ts, segBeta s i, s.hops.drop i.toNat⟩)
      obtain ⟨fp, hO⟩ := (S.mono X0.size).head
      exact ⟨_, fp, rfl, hO, ext_trans X0 B⟩
  · refine t_alloc S z_part rfl ?_ rfl rfl
    intro g7 w72 x73 S
    have B := bx Hb B x73
    refine t_call Try.call146 rfl (impl_copyHops _ _ _ (by first | assumption | exact SlR.below (by assumption) B) (by omega)) ?_ rfl rfl
    rintro e w74 ⟨v31, fpv31, rfl, hOv31, x75⟩
    refine ⟨_, rfl, x75, ?_⟩
    have S := S.add (o := slO _ _ _ _) x75 hOv31
    have B := bx Hb B x75
    obtain ⟨Av31, cv31, rfl, _⟩ := S.sl.form
    refine t_build (fun w => b_part _ _ _ _ _ _ w) rfl ?_ rfl
    have S := S.f1
    refine t_stn S sb_part rfl rfl rfl rfl (by intro zz hu; have hu : zz ∈ ([I kind, I s.ts, I (segBeta s i), .slice Av31 ((s.hops.drop (i.toNat))).length cv31] : List Value) := hu; simp only [List.mem_cons, List.not_mem_nil, or_false] at hu; rcases hu with rfl | rfl | rfl | rfl <;> first | rfl | exact (SlR.cells (by first | assumption | exact S.tail.sl | exact S.tail.tail.sl | exact S.tail.tail.tail.sl | exact S.tail.tail.tail.tail.sl | exact S.tail.tail.tail.tail.tail.sl | exact S.tail.tail.tail.tail.tail.tail.sl | exact S.tail.tail.tail.tail.tail.tail.tail.sl | exact S.tail.tail.tail.tail.tail.tail.tail.tail.sl)).2) ?_
    intro w76 b77 S
    have B := B.trans b77
    refine t_done' ?_
    refine x_seq ?_
    refine w_seq ?_
    refine w_seq ?_
    refine w_region ?_
    refine t_move rfl ?_ rfl
    refine t_calls Try.call117 rfl (impl_IsReversed _ _) ?_ rfl rfl
    refine t_done ?_
    refine x_seq ?_
    refine w_ifb rfl ?_ ?_
    · intro h3
      rw [make_rev h1' h2' h3]
      refine w_seq ?_
      refine w_region ?_
      refine t_lda (by assumption) ab_seg sb_seg B rfl ?_ rfl
      intro v35 hv35
      obtain ⟨v35_2, rfl, hv35_2⟩ := seg_va hv35
      refine t_fld ln_seg_2 (by assumption) fb_seg_2 rfl ?_ rfl
      intro p36 hp36
      refine t_lds (by assumption) ab_s_hop B rfl ?_ rfl
      intro v37 hv37
      refine t_len e_hop (by assumption) rfl rfl ?_ rfl
      refine t_callx Try.call145 rfl (impl_BetaAt _ _ _ _ (by first | assumption | exact VA.below (by assumption) B) (by omega)) ?_ rfl rfl
      intro w78 x79
      have B := bx Hb B x79
      have S := S.below x79
      refine t_fldx fb_part_2 rfl rfl ?_ rfl
      refine t_st1 S sb_int rfl rfl rfl rfl rfl ?_
      intro w80 b81 S
      have B := B.trans b81
      refine t_done ?_
      refine x_seq ?_
      refine w_region ?_
      refine t_fldx fb_part_3 rfl rfl ?_ rfl
      refine t_bx1 S.box ab_s_hop rfl rfl ?_ rfl
      refine t_call Try.call147 rfl (impl_reversedHops _ _ _ (S.tail.sl) (by omega)) ?_ rfl rfl
      rintro e w82 ⟨v43, fpv43, rfl, hOv43, x83⟩
      refine ⟨_, rfl, x83, ?_⟩
      have S := S.add (o := slO _ _ _ _) x83 hOv43
      have B := bx Hb B x83
      refine t_fldx fb_part_3 rfl rfl ?_ rfl
      obtain ⟨Av43, cv43, rfl, _⟩ := S.sl.form
      have S := S.f1
      refine t_st1 S sb_s_hop rfl rfl rfl rfl rfl ?_
      intro w84 b85 S
      have B := B.trans b85
      refine t_done ?_
      refine x_seq ?_
      refine w_seq ?_
      refine w_region ?_
      refine t_bxn S.box ab_part sb_part rfl rfl ?_ rfl
      have S := S.f3
      refine t_stn S sb_part rfl rfl rfl rfl (by intro zz hu; have hu : zz ∈ ([I kind, I s.ts, I (segBeta s (s.hops.length : Int)), .slice Av43 (((s.hops.drop (i.toNat))).reverse).length cv43] : List Value) := hu; simp only [List.mem_cons, List.not_mem_nil, or_false] at hu; rcases hu with rfl | rfl | rfl | rfl <;> first | rfl | exact (SlR.cells (by first | assumption | exact S.tail.sl | exact S.tail.tail.sl | exact S.tail.tail.tail.sl | exact S.tail.tail.tail.tail.sl | exact S.tail.tail.tail.tail.tail.sl | exact S.tail.tail.tail.tail.tail.tail.sl | exact S.tail.tail.tail.tail.tail.tail.tail.sl | exact S.tail.tail.tail.tail.tail.tail.tail.tail.sl)).2) ?_
      intro w86 b87 S
      have B := B.trans b87
      refine t_done ?_
      refine x_seq ?_
      refine w_ret ?_
      refine x_retc rfl rfl S.box ab_part sb_part rfl ?_
      have S := S.f2
      have S := S.partShut (x := ⟨kind, s.ts, segBeta s s.hops.length, (s.hops.drop i.toNat).reverse⟩)
      obtain ⟨fp, hO⟩ := (S.mono X0.size).head
      exact ⟨_, fp, rfl, hO, ext_trans X0 B⟩
    · intro h3
      rw [make_fwd h1' h2' h3]
      refine w_skip ?_
      refine x_seq ?_
      refine w_seq ?_
      refine w_region ?_
      refine t_bxn S.box ab_part sb_part rfl rfl ?_ rfl
      have S := S.f2
      refine t_stn S sb_part rfl rfl rfl rfl (by intro zz hu; have hu : zz ∈ ([I kind, I s.ts, I (segBeta s i), .slice Av31 ((s.hops.drop (i.toNat))).length cv31] : List Value) := hu; simp only [List.mem_cons, List.not_mem_nil, or_false] at hu; rcases hu with rfl | rfl | rfl | rfl <;> first | rfl | exact (SlR.cells (by first | assumption | exact S.tail.sl | exact S.tail.tail.sl | exact S.tail.tail.tail.sl | exact S.tail.tail.tail.tail.sl | exact S.tail.tail.tail.tail.tail.sl | exact S.tail.tail.tail.tail.tail.tail.sl | exact S.tail.tail.tail.tail.tail.tail.tail.sl | exact S.tail.tail.tail.tail.tail.tail.tail.tail.sl)).2) ?_
      intro w88 b89 S
      have B := B.trans b89
      refine t_done ?_
      refine x_seq ?_
      refine w_ret ?_
      refine x_retc rfl rfl S.box ab_part sb_part rfl ?_
      have S := S.f2
      have S := S.partShut (x := ⟨kind, s.ts, segBeta s i, s.hops.drop i.toNat⟩)
      obtain ⟨fp, hO⟩ := (S.mono X0.size).head
      exact ⟨_, fp, rfl, hO, ext_trans X0 B⟩
  · refine t_alloc S z_part rfl ?_ rfl rfl
    intro g7 w90 x91 S
    have B := bx Hb B x91
    refine t_callx Try.call145 rfl (impl_BetaAt _ _ _ _ (by first | assumption | exact VA.below (by assumption) B) (by omega)) ?_ rfl rfl
    intro w92 x93
    have B := bx Hb B x93
    have S := S.below x93
    refine t_call Try.call146 rfl (impl_copyHops _ _ _ (by first | assumption | exact SlR.below (by assumption) B) (by omega)) ?_ rfl rfl
    rintro e w94 ⟨v31, fpv31, rfl, hOv31, x95⟩
    refine ⟨_, rfl, x95, ?_⟩
    have S := S.add (o := slO _ _ _ _) x95 hOv31
    have B := bx Hb B x95
    obtain ⟨Av31, cv31, rfl, _⟩ := S.sl.form
    refine t_build (fun w => b_part _ _ _ _ _ _ w) rfl ?_ rfl
    have S := S.f1
    refine t_stn S sb_part rfl rfl rfl rfl (by intro zz hu; have hu : zz ∈ ([I kind, I s.ts, I (segBeta s i), .slice Av31 ((s.hops.drop (i.toNat))).length cv31] : List Value) := hu; simp only [List.mem_cons, List.not_mem_nil, or_false] at hu; rcases hu with rfl | rfl | rfl | rfl <;> first | rfl | exact (SlR.cells (by first | assumption | exact S.tail.sl | exact S.tail.tail.sl | exact S.tail.tail.tail.sl | exact S.tail.tail.tail.tail.sl | exact S.tail.tail.tail.tail.tail.sl | exact S.tail.tail.tail.tail.tail.tail.sl | exact S.tail.tail.tail.tail.tail.tail.tail.sl | exact S.tail.tail.tail.tail.tail.tail.tail.tail.sl)).2) ?_
    intro w96 b97 S
    have B := B.trans b97
    refine t_done' ?_
    refine x_seq ?_
    refine w_seq ?_
    refine w_seq ?_
    refine w_region ?_
    refine t_move rfl ?_ rfl
    refine t_calls Try.call117 rfl (impl_IsReversed _ _) ?_ rfl rfl
    refine t_done ?_
    refine x_seq ?_
    refine w_ifb rfl ?_ ?_
    · intro h3
      rw [make_rev h1' h2' h3]
      refine w_seq ?_
      refine w_region ?_
      refine t_lda (by assumption) ab_seg sb_seg B rfl ?_ rfl
      intro v35 hv35
      obtain ⟨v35_2, rfl, hv35_2⟩ := seg_va hv35
      refine t_fld ln_seg_2 (by assumption) fb_seg_2 rfl ?_ rfl
      intro p36 hp36
      refine t_lds (by assumption) ab_s_hop B rfl ?_ rfl
      intro v37 hv37
      refine t_len e_hop (by assumption) rfl rfl ?_ rfl
      refine t_callx Try.call145 rfl (impl_BetaAt _ _ _ _ (by first | assumption | exact VA.below (by assumption) B) (by omega)) ?_ rfl rfl
      intro w98 x99
      have B := bx Hb B x99
      have S := S.below x99
      refine t_fldx fb_part_2 rfl rfl ?_ rfl
      refine t_st1 S sb_int rfl rfl rfl rfl rfl ?_
      intro w100 b101 S
      have B := B.trans b101
      refine t_done ?_
      refine x_seq ?_
      refine w_region ?_
      refine t_fldx fb_part_3 rfl rfl ?_ rfl
      refine t_bx1 S.box ab_s_hop rfl rfl ?_ rfl
      refine t_call Try.call147 rfl (impl_reversedHops _ _ _ (S.tail.sl) (by omega)) ?_ rfl rfl
      rintro e w102 ⟨v43, fpv43, rfl, hOv43, x103⟩
      refine ⟨_, rfl, x103, ?_⟩
      have S := S.add (o := slO _ _ _ _) x103 hOv43
      have B := bx Hb B x103
      refine t_fldx fb_part_3 rfl rfl ?_ rfl
      obtain ⟨Av43, cv43, rfl, _⟩ := S.sl.form
      have S := S.f1
      refine t_st1 S sb_s_hop rfl rfl rfl rfl rfl ?_
      intro w104 b105 S
      have B := B.trans b105
      refine t_done ?_
      refine x_seq ?_
      refine w_seq ?_
      refine w_region ?_
      refine t_bxn S.box ab_part sb_part rfl rfl ?_ rfl
      have S := S.f3
      refine t_stn S sb_part rfl rfl rfl rfl (by intro zz hu; have hu : zz ∈ ([I kind, I s.ts, I (segBeta s (s.hops.length : Int)), .slice Av43 (((s.hops.drop (i.toNat))).reverse).length cv43] : List Value) := hu; simp only [List.mem_cons, List.not_mem_nil, or_false] at hu; rcases hu with rfl | rfl | rfl | rfl <;> first | rfl | exact (SlR.cells (by first | assumption | exact S.tail.sl | exact S.tail.tail.sl | exact S.tail.tail.tail.sl | exact S.tail.tail.tail.tail.sl | exact S.tail.tail.tail.tail.tail.sl | exact S.tail.tail.tail.tail.tail.tail.sl | exact S.tail.tail.tail.tail.tail.tail.tail.sl | exact S.tail.tail.tail.tail.tail.tail.tail.tail.sl)).2) ?_
      intro w106 b107 S
      have B := B.trans b107
      refine t_done ?_
      refine x_seq ?_
      refine w_ret ?_
      refine x_retc rfl rfl S.box ab_part sb_part rfl ?_
      have S := S.f2
      have S := S.partShut (x := ⟨kind, s.ts, segBeta s s.hops.length, (s.hops.drop i.toNat).reverse⟩)
      obtain ⟨fp, hO⟩ := (S.mono X0.size).head
      exact ⟨_, fp, rfl, hO, ext_trans X0 B⟩
    · intro h3
      rw [make_fwd h1' h2' h3]
      refine w_skip ?_
      refine x_seq ?_
      refine w_seq ?_
      refine w_region ?_
      refine t_bxn S.box ab_part sb_part rfl rfl ?_ rfl
      have S := S.f2
      refine t_stn S sb_part rfl rfl rfl rfl (by intro zz hu; have hu : zz ∈ ([I kind, I s.ts, I (segBeta s i), .slice Av31 ((s.hops.drop (i.toNat))).length cv31] : List Value) := hu; simp only [List.mem_cons, List.not_mem_nil, or_false] at hu; rcases hu with rfl | rfl | rfl | rfl <;> first | rfl | exact (SlR.cells (by first | assumption | exact S.tail.sl | exact S.tail.tail.sl | exact S.tail.tail.tail.sl | exact S.tail.tail.tail.tail.sl | exact S.tail.tail.tail.tail.tail.sl | exact S.tail.tail.tail.tail.tail.tail.sl | exact S.tail.tail.tail.tail.tail.tail.tail.sl | exact S.tail.tail.tail.tail.tail.tail.tail.tail.sl)).2) ?_
      intro w108 b109 S
      have B := B.trans b109
      refine t_done ?_
      refine x_seq ?_
      refine w_ret ?_
      refine x_retc rfl rfl S.box ab_part sb_part rfl ?_
      have S := S.f2
      have S := S.partShut (x := ⟨kind, s.ts, segBeta s i, s.hops.drop i.toNat⟩)
      obtain ⟨fp, hO⟩ := (S.mono X0.size).head
      exact ⟨_, fp, rfl, hO, ext_trans X0 B⟩
theorem spec_MakePart (s : Seg) (v : Value) (kind i : Int) (w : World) (h : VA segT w v s) (hz : s.hops.length ≤ 1048576) : Calls Try.prog 96 #[v, I kind, I i] w fun e w' => ∃ cs fp, e = .returned (.agg cs.toArray) ∧ partT.O w.heap.size w' cs (makePart s kind i) fp ∧ Below w.heap.size w w' := by
  have hdl : (s.hops.drop i.toNat).length ≤ 1048576 := by rw [List.length_drop]; omega
  have X0 := Below.refl w.heap.size w
  refine enter Try.func96 rfl Try.ntmps96 rfl ?_
  refine w_seq ?_
  refine w_region ?_
  refine t_boxr (by assumption) rfl ?_ rfl rfl
  intro p3 w110 x111 hp3
  replace h := h.below x111
  have X0 := ext_trans X0 x111
  have S := Sep.nil w110
  have B := Below.refl w110.heap.size w110
  have Hb := Nat.le_refl w110.heap.size
  refine t_alloc S z_part rfl ?_ rfl rfl
  intro g6 w112 x113 S
  have B := bx Hb B x113
  refine t_done ?_
  refine x_seq ?_
  refine w_seq ?_
  refine w_seq ?_
  refine w_region ?_
  refine t_move rfl ?_ rfl
  refine t_fld ln_seg_2 (by assumption) fb_seg_2 rfl ?_ rfl
  intro p10 hp10
  refine t_lds (by assumption) ab_s_hop B rfl ?_ rfl
  intro v11 hv11
  refine t_len e_hop (by assumption) rfl rfl ?_ rfl
  refine t_sub rfl rfl (by omega) ?_ rfl
  refine t_calls Try.call73 rfl (spec_l1In _ _ _ _) ?_ rfl rfl
  refine t_notb rfl ?_ rfl
  refine t_move rfl ?_ rfl
  refine t_part (t := 16) rfl ?_ ?_
  · intro h1
    have h1' : inR i 0 ((s.hops.length : Int) - 1) = false := by simpa using h1
    rw [make_none (by rw [h1']; rfl)]
    refine t_off rfl rfl rfl ?_ rfl
    refine t_off rfl rfl rfl ?_ rfl
    refine t_off rfl rfl rfl ?_ rfl
    refine t_pickt rfl rfl ?_ rfl
    refine t_done ?_
    refine x_seq ?_
    refine w_yes rfl ?_
    refine w_seq ?_
    refine w_region ?_
    refine t_build (fun w => b_part0 w) rfl ?_ rfl
    refine t_stn S sb_part rfl rfl rfl rfl (by simp [Value.oneCell']) ?_
    intro w114 b115 S
    have B := B.trans b115
    refine t_done ?_
    refine x_seq ?_
    refine w_ret ?_
    refine x_then_ret ?_
    refine x_retc rfl rfl S.box ab_part sb_part rfl ?_
    have S := Sep.addNil (T := hopT) (e := 101) S
    have S := S.partShut (x := ⟨0, 0, 0, []⟩)
    obtain ⟨fp, hO⟩ := (S.mono X0.size).head
    exact ⟨_, fp, rfl, hO, ext_trans X0 B⟩
  intro h1
  have h1' : inR i 0 ((s.hops.length : Int) - 1) = true := by simpa using h1
  have r1 := inR_iff.1 h1'
  refine t_on rfl rfl ?_
  refine t_move rfl ?_ rfl
  refine t_on rfl rfl ?_
  refine t_calls Try.call73 rfl (spec_l1In _ _ _ _) ?_ rfl rfl
  refine t_on rfl rfl ?_
  refine t_notb rfl ?_ rfl
  refine t_pickf rfl rfl ?_ rfl
  refine t_done ?_
  refine x_seq ?_
  refine w_ifb rfl ?_ ?_
  · intro h2
    have h2' : inR kind 1 4 = false := by simpa using h2
    rw [make_none (by rw [h2']; simp)]
    refine w_seq ?_
    refine w_region ?_
    refine t_build (fun w => b_part0 w) rfl ?_ rfl
    refine t_stn S sb_part rfl rfl rfl rfl (by simp [Value.oneCell']) ?_
    intro w116 b117 S
    have B := B.trans b117
    refine t_done ?_
    refine x_seq ?_
    refine w_ret ?_
    refine x_then_ret ?_
    refine x_retc rfl rfl S.box ab_part sb_part rfl ?_
    have S := Sep.addNil (T := hopT) (e := 101) S
    have S := S.partShut (x := ⟨0, 0, 0, []⟩)
    obtain ⟨fp, hO⟩ := (S.mono X0.size).head
    exact ⟨_, fp, rfl, hO, ext_trans X0 B⟩
  intro h2
  have h2' : inR kind 1 4 = true := by simpa using h2
  refine w_skip ?_
  refine x_seq ?_
  refine w_seq ?_
  refine w_draw (.st .take 0 (.st .take 1 (.st .take 2 (.st .take 3 (.st .take 4 (.alt (.st .run 5 (.st .take 6 (.st .run 7 (.st .fin 8 .done)))) (.st .run 7 (.st .run 5 (.st .take 6 (.st .fin 8 .done)))))))))) mixed (by kernel_rfl) ?_
  intro w118 x119
  have B := bx Hb B x119
  have S := S.below x119
  refine t_move rfl ?_ rfl
  refine t_fld ln_seg_0 (by assumption) fb_seg_0 rfl ?_ rfl
  intro p23 hp23
  refine t_ldi (by assumption) ab_int B rfl ?_ rfl
  refine t_lda (by assumption) ab_seg sb_seg B rfl ?_ rfl
  intro v25 hv25
  obtain ⟨v25_2, rfl, hv25_2⟩ := seg_va hv25
  refine t_move rfl ?_ rfl
  refine t_alt ?_ ?_
  · refine t_callx Try.call143 rfl (spec_BetaAt _ _ _ _ (by first | assumption | exact VA.below (by assumption) B) (by omega)) ?_ rfl rfl
    intro w120 x121
    have B := bx Hb B x121
    have S := S.below x121
    refine t_build (fun w => b_part3 _ _ _ w) rfl ?_ rfl
    refine t_alloc S z_part rfl ?_ rfl rfl
    intro g7 w122 x123 S
    have B := bx Hb B x123
    refine t_stn S sb_part rfl rfl rfl rfl (by simp [Value.oneCell']) ?_
    intro w124 b125 S
    have B := B.trans b125
    refine t_done' ?_
    refine x_seq ?_
    refine w_seq ?_
    refine w_seq ?_
    refine w_region ?_
    refine t_move rfl ?_ rfl
    refine t_calls Try.call133 rfl (spec_IsReversed _ _) ?_ rfl rfl
    refine t_notb rfl ?_ rfl
    refine t_done ?_
    refine x_seq ?_
    refine w_ifb rfl ?_ ?_
    · intro h3
      rw [make_fwd h1' h2' (by simpa using h3)]
      refine w_seq ?_
      refine w_region ?_
      refine t_lit (T := hopT) (css := []) (l := []) hop_flat S bs_hop0 rfl rfl rfl rfl (Nat.zero_le _) litR_nil ?_ rfl rfl
      intro u32 w126 x127 S
      have B := bx Hb B x127
      refine t_fld ln_seg_2 (by assumption) fb_seg_2 rfl ?_ rfl
      intro p33 hp33
      refine t_lds (by assumption) ab_s_hop B rfl ?_ rfl
      intro v34 hv34
      refine t_move rfl ?_ rfl
      refine t_sld e_hop (k := (i.toNat)) (by assumption) rfl rfl (by first | rfl | omega) (by omega) ?_ rfl
      intro v36 hv36
      refine t_cat hop_flat e_hop S (by first | assumption | exact SlR.below (by assumption) B) rfl rfl rfl (by first | omega | (simp [-List.length_flatMap]; omega)) (by (simp [maxLen, -List.length_flatMap]; try omega)) ?_ rfl
      intro v37 w128 x129 S
      have B := B.trans x129
      refine t_fldx fb_part_3 rfl rfl ?_ rfl
      obtain ⟨Av37, cv37, rfl, _⟩ := S.sl.form
      have S := S.f1
      refine t_st1 S sb_s_hop rfl rfl rfl rfl rfl ?_
      intro w130 b131 S
      have B := B.trans b131
      refine t_done ?_
      refine x_seq ?_
      refine w_seq ?_
      refine w_region ?_
      refine t_bxn S.box ab_part sb_part rfl rfl ?_ rfl
      have S := S.f2
      refine t_stn S sb_part rfl rfl rfl rfl (by intro zz hu; have hu : zz ∈ ([I kind, I s.ts, I (segBeta s i), .slice Av37 (([]) ++ (s.hops.drop (i.toNat))).length cv37] : List Value) := hu; simp only [List.mem_cons, List.not_mem_nil, or_false] at hu; rcases hu with rfl | rfl | rfl | rfl <;> first | rfl | exact (SlR.cells (by first | assumption | exact S.tail.sl | exact S.tail.tail.sl | exact S.tail.tail.tail.sl | exact S.tail.tail.tail.tail.sl | exact S.tail.tail.tail.tail.tail.sl | exact S.tail.tail.tail.tail.tail.tail.sl | exact S.tail.tail.tail.tail.tail.tail.tail.sl | exact S.tail.tail.tail.tail.tail.tail.tail.tail.sl)).2) ?_
      intro w132 b133 S
      have B := B.trans b133
      refine t_done ?_
      refine x_seq ?_
      refine w_ret ?_
      refine x_then_ret ?_
      refine x_retc rfl rfl S.box ab_part sb_part rfl ?_
      have S := S.f2
      have S := S.partShut (x := ⟨kind, s.ts, segBeta s i, s.hops.drop i.toNat⟩)
      obtain ⟨fp, hO⟩ := (S.mono X0.size).head
      exact ⟨_, fp, rfl, hO, ext_trans X0 B⟩
    · intro h3
      rw [make_rev h1' h2' (by simpa using h3)]
      refine w_skip ?_
      refine x_seq ?_
      refine w_seq ?_
      refine w_region ?_
      refine t_lda (by assumption) ab_seg sb_seg B rfl ?_ rfl
      intro v40 hv40
      obtain ⟨v40_2, rfl, hv40_2⟩ := seg_va hv40
      refine t_fld ln_seg_2 (by assumption) fb_seg_2 rfl ?_ rfl
      intro p41 hp41
      refine t_lds (by assumption) ab_s_hop B rfl ?_ rfl
      intro v42 hv42
      refine t_len e_hop (by assumption) rfl rfl ?_ rfl
      refine t_callx Try.call143 rfl (spec_BetaAt _ _ _ _ (by first | assumption | exact VA.below (by assumption) B) (by omega)) ?_ rfl rfl
      intro w134 x135
      have B := bx Hb B x135
      have S := S.below x135
      refine t_fldx fb_part_2 rfl rfl ?_ rfl
      refine t_st1 S sb_int rfl rfl rfl rfl rfl ?_
      intro w136 b137 S
      have B := B.trans b137
      refine t_done ?_
      refine x_seq ?_
      refine w_seq ?_
      refine w_seq ?_
      refine w_region ?_
      refine t_fld ln_seg_2 (by assumption) fb_seg_2 rfl ?_ rfl
      intro p46 hp46
      refine t_lds (by assumption) ab_s_hop B rfl ?_ rfl
      intro v47 hv47
      refine t_len e_hop (by assumption) rfl rfl ?_ rfl
      refine t_sub rfl rfl (by omega) ?_ rfl
      refine t_assign rfl ?_ rfl
      refine t_done ?_
      refine x_seq ?_
      refine w_block ?_
      refine w_loop (X := Int × Value) (fun x wq => (fun j u => i - 1 ≤ j ∧ j ≤ (s.hops.length : Int) - 1 ∧ Below w110.heap.size w110 wq ∧ Sep w110.heap.size wq [bxO g7 94 #[I kind, I s.ts, I (segBeta s s.hops.length), u], slO hopT 101 u (s.hops.drop (j + 1).toNat).reverse, bxO g6 94 #[I 0, I 0, I 0, .slice none 0 0]]) x.1 x.2) (fun x => (fun j u => [(8, I j), (2, I i), (3, p3), (6, .pointer (some ⟨g6, 0, none⟩)), (7, .pointer (some ⟨g7, 0, none⟩))]) x.1 x.2) (fun x => (fun j u => (j + 1 - i).toNat) x.1 x.2) ((s.hops.length : Int) - 1, .slice none 0 0) ?_ ⟨rfl, rfl, rfl, rfl, rfl, trivial⟩ ?_
      · refine ⟨by show i - 1 ≤ (s.hops.length : Int) - 1; omega, by show (s.hops.length : Int) - 1 ≤ _; omega, B, ?_⟩
        show Sep _ _ [_, slO hopT _ _ (s.hops.drop ((s.hops.length : Int) - 1 + 1).toNat).reverse, _]
        rw [List.drop_of_length_le (by omega)]
        exact S.addNil.f1
      · rintro ⟨j, u⟩ w138 hI
        try dsimp only at hI ⊢
        obtain ⟨hk, hk2, B, S⟩ := hI
        have hml : (s.hops.drop (j + 1).toNat).reverse.length ≤ 1048576 := by rw [List.length_reverse, List.length_drop]; omega
        refine w_seq ?_
        refine w_seq ?_
        refine w_region ?_
        refine t_move rfl ?_ rfl
        refine t_move rfl ?_ rfl
        refine t_geq rfl rfl ?_ rfl
        refine t_done ?_
        refine x_seq ?_
        refine w_if rfl ?_ ?_
        · intro hlt
          refine w_skip ?_
          refine x_seq ?_
          refine w_seq ?_
          refine w_block ?_
          refine w_draw (.st .take 0 (.st .take 1 (.st .take 2 (.st .take 3 (.st .take 4 (.st .take 5 (.st .take 6 (.st .run 7 (.st .fin 8 (.st .fin 9 (.st .fin 10 .done))))))))))) mixed (by kernel_rfl) ?_
          intro w139 x140
          have B := bx Hb B x140
          have S := S.below x140
          refine t_fldx fb_part_3 rfl rfl ?_ rfl
          refine t_bx1 S.box ab_s_hop rfl rfl ?_ rfl
          refine t_fld ln_seg_2 (by assumption) fb_seg_2 rfl ?_ rfl
          intro p57 hp57
          refine t_lds (by assumption) ab_s_hop B rfl ?_ rfl
          intro v58 hv58
          refine t_move rfl ?_ rfl
          obtain ⟨e60, he60⟩ : ∃ e, (s.hops)[(j.toNat)]? = some e := getx (by omega)
          refine t_idx e_hop (k := (j.toNat)) (by assumption) he60 B rfl rfl (by first | rfl | omega) ?_ rfl
          intro p60 hp60
          refine t_lda (by assumption) ab_hop sb_hop B rfl ?_ rfl
          intro v61 hv61
          obtain rfl := hop_va hv61
          refine t_lit (T := hopT) (l := [(e60 : Hop)]) (css := [[I e60.ia, I e60.ing, I e60.eg, I e60.exp, I e60.mac]]) hop_flat S (fun w => bs_hop1 _ _ _ _ _ w) rfl rfl rfl rfl (by simp [maxLen]) (litR_one fun _ => rfl) ?_ rfl rfl
          intro u62 w141 x142 S
          have B := bx Hb B x142
          have hR := S.sl
          have S := S.f2
          refine t_cat hop_flat e_hop S hR rfl rfl rfl (by first | omega | (simp [-List.length_flatMap]; omega)) (by (simp [maxLen, -List.length_flatMap]; try omega)) ?_ rfl
          intro v63 w143 x144 S
          have B := B.trans x144
          clear hR
          have S := S.f1
          have S := S.tail
          refine t_fldx fb_part_3 rfl rfl ?_ rfl
          obtain ⟨Av63, cv63, rfl, _⟩ := S.sl.form
          have S := S.f1
          refine t_st1 S sb_s_hop rfl rfl rfl rfl rfl ?_
          intro w145 b146 S
          have B := B.trans b146
          refine t_done' ?_
          refine x_block_normal ?_
          refine x_seq ?_
          refine w_region ?_
          refine t_move rfl ?_ rfl
          refine t_sub rfl rfl (by omega) ?_ rfl
          refine t_assign rfl ?_ rfl
          refine t_done ?_
          refine x_round (I := (fun x wq => (fun j u => i - 1 ≤ j ∧ j ≤ (s.hops.length : Int) - 1 ∧ Below w110.heap.size w110 wq ∧ Sep w110.heap.size wq [bxO g7 94 #[I kind, I s.ts, I (segBeta s s.hops.length), u], slO hopT 101 u (s.hops.drop (j + 1).toNat).reverse, bxO g6 94 #[I 0, I 0, I 0, .slice none 0 0]]) x.1 x.2)) (F := (fun x => (fun j u => [(8, I j), (2, I i), (3, p3), (6, .pointer (some ⟨g6, 0, none⟩)), (7, .pointer (some ⟨g7, 0, none⟩))]) x.1 x.2)) (μ := (fun x => (fun j u => (j + 1 - i).toNat) x.1 x.2)) (j - 1, .slice Av63 (((s.hops.drop (j + 1).toNat).reverse) ++ ([(e60 : Hop)])).length cv63) ?_ (by exact ⟨rfl, rfl, rfl, rfl, rfl, trivial⟩) (by (try dsimp only); omega)
          try dsimp only
          refine ⟨by omega, by omega, B, ?_⟩
          rw [rev_snoc (by omega) he60]
          exact S
        · intro hge
          have hj : j + 1 = i := by omega
          rw [hj] at S
          refine w_exit ?_
          refine x_then_exit ?_
          refine x_then_exit ?_
          refine x_block_exit ?_
          refine x_seq ?_
          refine w_seq ?_
          refine w_region ?_
          refine t_bxn S.box ab_part sb_part rfl rfl ?_ rfl
          have S := S.f2
          refine t_stn S sb_part rfl rfl rfl rfl (by intro zz hu; have hu : zz ∈ ([I kind, I s.ts, I ((segBeta s s.hops.length)), u] : List Value) := hu; simp only [List.mem_cons, List.not_mem_nil, or_false] at hu; rcases hu with rfl | rfl | rfl | rfl <;> first | rfl | exact (SlR.cells (by first | assumption | exact S.tail.sl | exact S.tail.tail.sl | exact S.tail.tail.tail.sl | exact S.tail.tail.tail.tail.sl | exact S.tail.tail.tail.tail.tail.sl | exact S.tail.tail.tail.tail.tail.tail.sl | exact S.tail.tail.tail.tail.tail.tail.tail.sl | exact S.tail.tail.tail.tail.tail.tail.tail.tail.sl)).2) ?_
          intro w147 b148 S
          have B := B.trans b148
          refine t_done ?_
          refine x_seq ?_
          refine w_ret ?_
          refine x_retc rfl rfl S.box ab_part sb_part rfl ?_
          have S := S.f2
          have S := S.partShut (x := ⟨kind, s.ts, segBeta s s.hops.length, (s.hops.drop i.toNat).reverse⟩)
          obtain ⟨fp, hO⟩ := (S.mono X0.size).head
          exact ⟨_, fp, rfl, hO, ext_trans X0 B⟩
  · refine t_alloc S z_part rfl ?_ rfl rfl
    intro g7 w149 x150 S
    have B := bx Hb B x150
    refine t_callx Try.call143 rfl (spec_BetaAt _ _ _ _ (by first | assumption | exact VA.below (by assumption) B) (by omega)) ?_ rfl rfl
    intro w151 x152
    have B := bx Hb B x152
    have S := S.below x152
    refine t_build (fun w => b_part3 _ _ _ w) rfl ?_ rfl
    refine t_stn S sb_part rfl rfl rfl rfl (by simp [Value.oneCell']) ?_
    intro w153 b154 S
    have B := B.trans b154
    refine t_done' ?_
    refine x_seq ?_
    refine w_seq ?_
    refine w_seq ?_
    refine w_region ?_
    refine t_move rfl ?_ rfl
    refine t_calls Try.call133 rfl (spec_IsReversed _ _) ?_ rfl rfl
    refine t_notb rfl ?_ rfl
    refine t_done ?_
    refine x_seq ?_
    refine w_ifb rfl ?_ ?_
    · intro h3
      rw [make_fwd h1' h2' (by simpa using h3)]
      refine w_seq ?_
      refine w_region ?_
      refine t_lit (T := hopT) (css := []) (l := []) hop_flat S bs_hop0 rfl rfl rfl rfl (Nat.zero_le _) litR_nil ?_ rfl rfl
      intro u32 w155 x156 S
      have B := bx Hb B x156
      refine t_fld ln_seg_2 (by assumption) fb_seg_2 rfl ?_ rfl
      intro p33 hp33
      refine t_lds (by assumption) ab_s_hop B rfl ?_ rfl
      intro v34 hv34
      refine t_move rfl ?_ rfl
      refine t_sld e_hop (k := (i.toNat)) (by assumption) rfl rfl (by first | rfl | omega) (by omega) ?_ rfl
      intro v36 hv36
      refine t_cat hop_flat e_hop S (by first | assumption | exact SlR.below (by assumption) B) rfl rfl rfl (by first | omega | (simp [-List.length_flatMap]; omega)) (by (simp [maxLen, -List.length_flatMap]; try omega)) ?_ rfl
      intro v37 w157 x158 S
      have B := B.trans x158
      refine t_fldx fb_part_3 rfl rfl ?_ rfl
      obtain ⟨Av37, cv37, rfl, _⟩ := S.sl.form
      have S := S.f1
      refine t_st1 S sb_s_hop rfl rfl rfl rfl rfl ?_
      intro w159 b160 S
      have B := B.trans b160
      refine t_done ?_
      refine x_seq ?_
      refine w_seq ?_
      refine w_region ?_
      refine t_bxn S.box ab_part sb_part rfl rfl ?_ rfl
      have S := S.f2
      refine t_stn S sb_part rfl rfl rfl rfl (by intro zz hu; have hu : zz ∈ ([I kind, I s.ts, I (segBeta s i), .slice Av37 (([]) ++ (s.hops.drop (i.toNat))).length cv37] : List Value) := hu; simp only [List.mem_cons, List.not_mem_nil, or_false] at hu; rcases hu with rfl | rfl | rfl | rfl <;> first | rfl | exact (SlR.cells (by first | assumption | exact S.tail.sl | exact S.tail.tail.sl | exact S.tail.tail.tail.sl | exact S.tail.tail.tail.tail.sl | exact S.tail.tail.tail.tail.tail.sl | exact S.tail.tail.tail.tail.tail.tail.sl | exact S.tail.tail.tail.tail.tail.tail.tail.sl | exact S.tail.tail.tail.tail.tail.tail.tail.tail.sl)).2) ?_
      intro w161 b162 S
      have B := B.trans b162
      refine t_done ?_
      refine x_seq ?_
      refine w_ret ?_
      refine x_then_ret ?_
      refine x_retc rfl rfl S.box ab_part sb_part rfl ?_
      have S := S.f2
      have S := S.partShut (x := ⟨kind, s.ts, segBeta s i, s.hops.drop i.toNat⟩)
      obtain ⟨fp, hO⟩ := (S.mono X0.size).head
      exact ⟨_, fp, rfl, hO, ext_trans X0 B⟩
    · intro h3
      rw [make_rev h1' h2' (by simpa using h3)]
      refine w_skip ?_
      refine x_seq ?_
      refine w_seq ?_
      refine w_region ?_
      refine t_lda (by assumption) ab_seg sb_seg B rfl ?_ rfl
      intro v40 hv40
      obtain ⟨v40_2, rfl, hv40_2⟩ := seg_va hv40
      refine t_fld ln_seg_2 (by assumption) fb_seg_2 rfl ?_ rfl
      intro p41 hp41
      refine t_lds (by assumption) ab_s_hop B rfl ?_ rfl
      intro v42 hv42
      refine t_len e_hop (by assumption) rfl rfl ?_ rfl
      refine t_callx Try.call143 rfl (spec_BetaAt _ _ _ _ (by first | assumption | exact VA.below (by assumption) B) (by omega)) ?_ rfl rfl
      intro w163 x164
      have B := bx Hb B x164
      have S := S.below x164
      refine t_fldx fb_part_2 rfl rfl ?_ rfl
      refine t_st1 S sb_int rfl rfl rfl rfl rfl ?_
      intro w165 b166 S
      have B := B.trans b166
      refine t_done ?_
      refine x_seq ?_
      refine w_seq ?_
      refine w_seq ?_
      refine w_region ?_
      refine t_fld ln_seg_2 (by assumption) fb_seg_2 rfl ?_ rfl
      intro p46 hp46
      refine t_lds (by assumption) ab_s_hop B rfl ?_ rfl
      intro v47 hv47
      refine t_len e_hop (by assumption) rfl rfl ?_ rfl
      refine t_sub rfl rfl (by omega) ?_ rfl
      refine t_assign rfl ?_ rfl
      refine t_done ?_
      refine x_seq ?_
      refine w_block ?_
      refine w_loop (X := Int × Value) (fun x wq => (fun j u => i - 1 ≤ j ∧ j ≤ (s.hops.length : Int) - 1 ∧ Below w110.heap.size w110 wq ∧ Sep w110.heap.size wq [bxO g7 94 #[I kind, I s.ts, I (segBeta s s.hops.length), u], slO hopT 101 u (s.hops.drop (j + 1).toNat).reverse, bxO g6 94 #[I 0, I 0, I 0, .slice none 0 0]]) x.1 x.2) (fun x => (fun j u => [(8, I j), (2, I i), (3, p3), (6, .pointer (some ⟨g6, 0, none⟩)), (7, .pointer (some ⟨g7, 0, none⟩))]) x.1 x.2) (fun x => (fun j u => (j + 1 - i).toNat) x.1 x.2) ((s.hops.length : Int) - 1, .slice none 0 0) ?_ ⟨rfl, rfl, rfl, rfl, rfl, trivial⟩ ?_
      · refine ⟨by show i - 1 ≤ (s.hops.length : Int) - 1; omega, by show (s.hops.length : Int) - 1 ≤ _; omega, B, ?_⟩
        show Sep _ _ [_, slO hopT _ _ (s.hops.drop ((s.hops.length : Int) - 1 + 1).toNat).reverse, _]
        rw [List.drop_of_length_le (by omega)]
        exact S.addNil.f1
      · rintro ⟨j, u⟩ w167 hI
        try dsimp only at hI ⊢
        obtain ⟨hk, hk2, B, S⟩ := hI
        have hml : (s.hops.drop (j + 1).toNat).reverse.length ≤ 1048576 := by rw [List.length_reverse, List.length_drop]; omega
        refine w_seq ?_
        refine w_seq ?_
        refine w_region ?_
        refine t_move rfl ?_ rfl
        refine t_move rfl ?_ rfl
        refine t_geq rfl rfl ?_ rfl
        refine t_done ?_
        refine x_seq ?_
        refine w_if rfl ?_ ?_
        · intro hlt
          refine w_skip ?_
          refine x_seq ?_
          refine w_seq ?_
          refine w_block ?_
          refine w_draw (.st .take 0 (.st .take 1 (.st .take 2 (.st .take 3 (.st .take 4 (.st .take 5 (.st .take 6 (.st .run 7 (.st .fin 8 (.st .fin 9 (.st .fin 10 .done))))))))))) mixed (by kernel_rfl) ?_
          intro w168 x169
          have B := bx Hb B x169
          have S := S.below x169
          refine t_fldx fb_part_3 rfl rfl ?_ rfl
          refine t_bx1 S.box ab_s_hop rfl rfl ?_ rfl
          refine t_fld ln_seg_2 (by assumption) fb_seg_2 rfl ?_ rfl
          intro p57 hp57
          refine t_lds (by assumption) ab_s_hop B rfl ?_ rfl
          intro v58 hv58
          refine t_move rfl ?_ rfl
          obtain ⟨e60, he60⟩ : ∃ e, (s.hops)[(j.toNat)]? = some e := getx (by omega)
          refine t_idx e_hop (k := (j.toNat)) (by assumption) he60 B rfl rfl (by first | rfl | omega) ?_ rfl
          intro p60 hp60
          refine t_lda (by assumption) ab_hop sb_hop B rfl ?_ rfl
          intro v61 hv61
          obtain rfl := hop_va hv61
          refine t_lit (T := hopT) (l := [(e60 : Hop)]) (css := [[I e60.ia, I e60.ing, I e60.eg, I e60.exp, I e60.mac]]) hop_flat S (fun w => bs_hop1 _ _ _ _ _ w) rfl rfl rfl rfl (by simp [maxLen]) (litR_one fun _ => rfl) ?_ rfl rfl
          intro u62 w170 x171 S
          have B := bx Hb B x171
          have hR := S.sl
          have S := S.f2
          refine t_cat hop_flat e_hop S hR rfl rfl rfl (by first | omega | (simp [-List.length_flatMap]; omega)) (by (simp [maxLen, -List.length_flatMap]; try omega)) ?_ rfl
          intro v63 w172 x173 S
          have B := B.trans x173
          clear hR
          have S := S.f1
          have S := S.tail
          refine t_fldx fb_part_3 rfl rfl ?_ rfl
          obtain ⟨Av63, cv63, rfl, _⟩ := S.sl.form
          have S := S.f1
          refine t_st1 S sb_s_hop rfl rfl rfl rfl rfl ?_
          intro w174 b175 S
          have B := B.trans b175
          refine t_done' ?_
          refine x_block_normal ?_
          refine x_seq ?_
          refine w_region ?_
          refine t_move rfl ?_ rfl
          refine t_sub rfl rfl (by omega) ?_ rfl
          refine t_assign rfl ?_ rfl
          refine t_done ?_
          refine x_round (I := (fun x wq => (fun j u => i - 1 ≤ j ∧ j ≤ (s.hops.length : Int) - 1 ∧ Below w110.heap.size w110 wq ∧ Sep w110.heap.size wq [bxO g7 94 #[I kind, I s.ts, I (segBeta s s.hops.length), u], slO hopT 101 u (s.hops.drop (j + 1).toNat).reverse, bxO g6 94 #[I 0, I 0, I 0, .slice none 0 0]]) x.1 x.2)) (F := (fun x => (fun j u => [(8, I j), (2, I i), (3, p3), (6, .pointer (some ⟨g6, 0, none⟩)), (7, .pointer (some ⟨g7, 0, none⟩))]) x.1 x.2)) (μ := (fun x => (fun j u => (j + 1 - i).toNat) x.1 x.2)) (j - 1, .slice Av63 (((s.hops.drop (j + 1).toNat).reverse) ++ ([(e60 : Hop)])).length cv63) ?_ (by exact ⟨rfl, rfl, rfl, rfl, rfl, trivial⟩) (by (try dsimp only); omega)
          try dsimp only
          refine ⟨by omega, by omega, B, ?_⟩
          rw [rev_snoc (by omega) he60]
          exact S
        · intro hge
          have hj : j + 1 = i := by omega
          rw [hj] at S
          refine w_exit ?_
          refine x_then_exit ?_
          refine x_then_exit ?_
          refine x_block_exit ?_
          refine x_seq ?_
          refine w_seq ?_
          refine w_region ?_
          refine t_bxn S.box ab_part sb_part rfl rfl ?_ rfl
          have S := S.f2
          refine t_stn S sb_part rfl rfl rfl rfl (by intro zz hu; have hu : zz ∈ ([I kind, I s.ts, I ((segBeta s s.hops.length)), u] : List Value) := hu; simp only [List.mem_cons, List.not_mem_nil, or_false] at hu; rcases hu with rfl | rfl | rfl | rfl <;> first | rfl | exact (SlR.cells (by first | assumption | exact S.tail.sl | exact S.tail.tail.sl | exact S.tail.tail.tail.sl | exact S.tail.tail.tail.tail.sl | exact S.tail.tail.tail.tail.tail.sl | exact S.tail.tail.tail.tail.tail.tail.sl | exact S.tail.tail.tail.tail.tail.tail.tail.sl | exact S.tail.tail.tail.tail.tail.tail.tail.tail.sl)).2) ?_
          intro w176 b177 S
          have B := B.trans b177
          refine t_done ?_
          refine x_seq ?_
          refine w_ret ?_
          refine x_retc rfl rfl S.box ab_part sb_part rfl ?_
          have S := S.f2
          have S := S.partShut (x := ⟨kind, s.ts, segBeta s s.hops.length, (s.hops.drop i.toNat).reverse⟩)
          obtain ⟨fp, hO⟩ := (S.mono X0.size).head
          exact ⟨_, fp, rfl, hO, ext_trans X0 B⟩
end Go.Proofs.Ytaapaafagmbkoaa
