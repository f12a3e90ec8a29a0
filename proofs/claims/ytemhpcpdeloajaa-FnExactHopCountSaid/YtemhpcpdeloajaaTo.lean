/- The copies that a law makes of its arguments: laws.toHop .. laws.toPathS: new memory that reads as the argument did. -/
import Derived.Test.YtemhpcpdeloajaaRows
import Derived.Test.YtemhpcpdeloajaaData
import Derived.WalkKit
import Derived.WalkSpells
import Derived.WalkLawsBesides
namespace Go.Proofs.Ytemhpcpdeloajaa
open Go.RowKit
set_option linter.unusedVariables false

theorem et_hop : ElemT Try.prog 73 80 5 40 := ElemT.mk' Try.underlying73 (z := .agg #[I 0, I 0, I 0, I 0, I 0]) (by kernel_rfl) rfl (by omega)
theorem et_part : ElemT Try.prog 30 75 4 48 := ElemT.mk' Try.underlying30 (z := .agg #[I 0, I 0, I 0, .slice none 0 0]) (by kernel_rfl) rfl (by omega)

theorem toHop_c (a b c d e : Int) (w : World) :
    Calls Try.prog 107 #[.agg #[I a, I b, I c, I d, I e]] w fun r w' => r = .returned (.agg #[I a, I b, I c, I d, I e]) ∧ Below w.heap.size w w' := by
  go_enter Try.func107, Try.ntmps107
  go_wp2
  refine bodyPost_ret (v := .agg #[I a, I b, I c, I d, I e]) (by simp [results, Try.results107, go_sem]) rfl ⟨rfl, ?_⟩
  repeat (first | exact Below.refl _ _ | refine Below.alloc ?_ (by simp; try omega) _)

theorem toHopS_c (hs : List Hop) (v : Value) (w : World) (h : SlR hopT w v hs) (hn : hs.length ≤ 1048576) :
    Calls Try.prog 101 #[v] w fun r w' => ∃ v' fp, r = .returned v' ∧ SlO hopT 80 w.heap.size w' v' hs fp ∧ Below w.heap.size w w' := by
  obtain ⟨A, c, rfl, _⟩ := h.form
  obtain ⟨n, H⟩ : ∃ n, Hid (n = hs.length) := ⟨_, rfl⟩
  rw [← H.out] at h hn ⊢
  obtain ⟨Z, hZ, hmk⟩ := make_rule et_hop n (by omega) (by omega)
  have HZ := hid hZ
  clear hZ
  go_enter Try.func101, Try.ntmps101
  go_wp2
  go_loopw [4] (fun i wr => ∃ k : Nat, k ≤ n ∧ i = I k ∧ Below w.heap.size w wr ∧ ∃ xs, Fil hopT 80 w.heap.size wr w.heap.size n (hs.take k) xs) (fun i _ => n - (intOf i).toNat)
  case atStart => exact ⟨0, by omega, rfl, (Below.refl _ _).alloc (Nat.le_refl _) _, _, Fil.start hopT 80 w Z n HZ.out (by simp only [maxLen]; omega)⟩
  case round =>
    rename_i wr
    obtain ⟨k, hk, rfl, hb, xs, hF⟩ := hrel
    clear hmk
    by_cases hlt : k < n
    · obtain ⟨g, o, c', x, e, hg, hxk, c0, c1, c2, c3, c4⟩ := hops_at (h.below hb) (by rw [← H.out]; exact hlt)
      rw [← H.out] at e
      cases e
      have ho := hF.1
      have hw := hb.size
      have hlw : w.heap.size < wr.heap.size := (ho.lt w.heap.size rfl).2
      have f0 := ho.frozenAt (k * 5)
      have f1 := ho.frozenAt (k * 5 + 1)
      have f2 := ho.frozenAt (k * 5 + 2)
      have f3 := ho.frozenAt (k * 5 + 3)
      have f4 := ho.frozenAt (k * 5 + 4)
      obtain ⟨u0, d0⟩ := own_cell ho (k * 5) (by show _ < _ * 5; omega)
      obtain ⟨u1, d1⟩ := own_cell ho (k * 5 + 1) (by show _ < _ * 5; omega)
      obtain ⟨u2, d2⟩ := own_cell ho (k * 5 + 2) (by show _ < _ * 5; omega)
      obtain ⟨u3, d3⟩ := own_cell ho (k * 5 + 3) (by show _ < _ * 5; omega)
      obtain ⟨u4, d4⟩ := own_cell ho (k * 5 + 4) (by show _ < _ * 5; omega)
      go_wp2_with (fail)
      refine (toHop_c _ _ _ _ _ _).mono ?_
      rintro e w1 ⟨rfl, hb1⟩
      obtain ⟨q1, q2⟩ := bcell hb1
      go_wp2_with (fail)
      go_roundw
      case rel =>
        have hb2 := hb.trans (hb1.mono hw)
        have hl := H.out
        have hF2 := hF.step hb1 (cs := [I x.ia, I x.ing, I x.eg, I x.exp, I x.mac]) (f := []) ⟨rfl, rfl⟩ ⟨rfl, rfl⟩ List.nodup_nil (own_set (own_set (own_set (own_set (own_set (own_below ho hb1) (k * 5) (I x.ia)) (k * 5 + 1) (I x.ing)) (k * 5 + 2) (I x.eg)) (k * 5 + 3) (I x.exp)) (k * 5 + 4) (I x.mac))
          (fun b hbg => by rw [far_set hbg, far_set hbg, far_set hbg, far_set hbg, far_set hbg]) (k := k) (by simp; omega) (fun m hm => set5_old hm) (fun j hj => set5_new ho.1 hlt hj)
        rw [← take_succ hxk.out] at hF2
        exact ⟨k + 1, by omega, by go_num, below_set (below_set (below_set (below_set (below_set hb2 (Nat.le_refl _) _) (Nat.le_refl _) _) (Nat.le_refl _) _) (Nat.le_refl _) _) (Nat.le_refl _) _, _, hF2⟩
      case measure => simp [intOf]; omega
    · go_wp2
      go_ret
      have : k = n := by omega
      subst this
      rw [H.out, List.take_length] at hF
      obtain ⟨fp, hO⟩ := hF.done rfl
      exact ⟨_, fp, rfl, by rw [H.out]; exact hO, hb⟩

theorem toPathPart_c (p : Part) (v : Value) (w : World) (h : SlR hopT w v p.hops) (hn : p.hops.length ≤ 1048576) :
    Calls Try.prog 80 #[.agg #[I p.kind, I p.ts, I p.beta, v]] w fun r w' => ∃ A c fp, r = .returned (.agg #[I p.kind, I p.ts, I p.beta, .slice A p.hops.length c]) ∧ SlO hopT 80 w.heap.size w' (.slice A p.hops.length c) p.hops fp ∧ Below w.heap.size w w' := by
  obtain ⟨A, c, rfl, _⟩ := h.form
  go_enter Try.func80, Try.ntmps80
  go_wp2_with (fail)
  have hb0 : Below w.heap.size w (((w.alloc (.cells #[I p.kind, I p.ts, I p.beta, .slice A p.hops.length c] 102)).alloc (.cells #[I 0, I 0, I 0, .slice none 0 0] 75)).alloc (.cells #[I p.kind, I p.ts, I p.beta, .slice none 0 0] 75)) :=
    (((Below.refl _ _).alloc (Nat.le_refl _) _).alloc (by simp) _).alloc (by simp; omega) _
  refine (toHopS_c p.hops _ _ (h.below hb0) hn).mono ?_
  rintro e w1 ⟨v', fp, rfl, hO, hb1⟩
  obtain ⟨A', c', rfl, _⟩ := hO.form
  have hz := hb1.size
  simp at hz
  obtain ⟨q1, q2⟩ := bcell hb1
  go_wp2_with (fail)
  refine bodyPost_ret (v := .agg #[I p.kind, I p.ts, I p.beta, .slice A' p.hops.length c']) (by simp [results, Try.results80, go_sem, q1]) rfl ⟨A', c', fp, rfl, ?_, ?_⟩
  · exact hopsO_mono (SlO.set (SlO.set (SlO.set (SlO.set (SlO.set hO (by simp)) (by simp)) (by simp)) (by simp)) (by simp)) (by simp; omega)
  · have hb2 := hb0.trans (hb1.mono (by simp; omega))
    exact below_set (below_set (below_set (below_set (below_set hb2 (by omega) _) (by omega) _) (by omega) _) (by omega) _) (by omega) _

theorem toPathPartS_c (ps : List Part) (v : Value) (w : World) (h : SlR partT w v ps) (hn : ps.length ≤ 1048576) (hm : ∀ p ∈ ps, p.hops.length ≤ 1048576) :
    Calls Try.prog 56 #[v] w fun r w' => ∃ v' fp, r = .returned v' ∧ SlO partT 75 w.heap.size w' v' ps fp ∧ Below w.heap.size w w' := by
  obtain ⟨A, c, rfl, _⟩ := h.form
  obtain ⟨n, H⟩ : ∃ n, Hid (n = ps.length) := ⟨_, rfl⟩
  rw [← H.out] at h hn ⊢
  obtain ⟨Z, hZ, hmk⟩ := make_rule et_part n (by omega) (by omega)
  have HZ := hid hZ
  clear hZ
  have Hm := hid hm
  clear hm
  go_enter Try.func56, Try.ntmps56
  go_wp2
  go_loopw [4] (fun i wr => ∃ k : Nat, k ≤ n ∧ i = I k ∧ Below w.heap.size w wr ∧ ∃ xs, Fil partT 75 w.heap.size wr w.heap.size n (ps.take k) xs) (fun i _ => n - (intOf i).toNat)
  case atStart => exact ⟨0, by omega, rfl, (Below.refl _ _).alloc (Nat.le_refl _) _, _, Fil.start partT 75 w Z n HZ.out (by simp only [maxLen]; omega)⟩
  case round =>
    rename_i wr
    obtain ⟨k, hk, rfl, hb, xs, hF⟩ := hrel
    clear hmk
    by_cases hlt : k < n
    · obtain ⟨g, o, c', x, A', d, e, hg, hxk, hd, hin, c0, c1, c2, c3⟩ := parts_at (h.below hb) (by rw [← H.out]; exact hlt)
      rw [← H.out] at e
      cases e
      have ho := hF.1
      have hw := hb.size
      have hlw : w.heap.size < wr.heap.size := (ho.lt w.heap.size rfl).2
      have f0 := ho.frozenAt (k * 4)
      have f1 := ho.frozenAt (k * 4 + 1)
      have f2 := ho.frozenAt (k * 4 + 2)
      have f3 := ho.frozenAt (k * 4 + 3)
      obtain ⟨u0, d0⟩ := own_cell ho (k * 4) (by show _ < _ * 4; omega)
      obtain ⟨u1, d1⟩ := own_cell ho (k * 4 + 1) (by show _ < _ * 4; omega)
      obtain ⟨u2, d2⟩ := own_cell ho (k * 4 + 2) (by show _ < _ * 4; omega)
      obtain ⟨u3, d3⟩ := own_cell ho (k * 4 + 3) (by show _ < _ * 4; omega)
      go_wp2_with (fail)
      refine (toPathPart_c x _ _ hin (Hm.out x (List.mem_of_getElem? hxk.out))).mono ?_
      rintro e w1 ⟨A2, c2', fp, rfl, hO, hb1⟩
      obtain ⟨q1, q2⟩ := bcell hb1
      go_wp2_with (fail)
      go_roundw
      case rel =>
        have hb2 := hb.trans (hb1.mono hw)
        have hl := H.out
        have hF2 := hF.step hb1 (cs := [I x.kind, I x.ts, I x.beta, .slice A2 x.hops.length c2']) (f := fp) ⟨_, _, [], fp, rfl, ⟨rfl, rfl⟩, ⟨_, rfl, hO⟩, rfl, by simpa using hO.nodup⟩ ⟨_, _, [], fp, rfl, ⟨rfl, rfl⟩, ⟨_, rfl, hopsO_mono hO hw⟩, rfl, by simpa using hO.nodup⟩ hO.nodup
          (own_set (own_set (own_set (own_set (own_below ho hb1) (k * 4) (I x.kind)) (k * 4 + 1) (I x.ts)) (k * 4 + 2) (I x.beta)) (k * 4 + 3) (.slice A2 x.hops.length c2'))
          (fun b hbg => by rw [far_set hbg, far_set hbg, far_set hbg, far_set hbg]) (k := k) (by simp; omega) (fun m hm => set4_old hm) (fun j hj => set4_new ho.1 hlt hj)
        rw [← take_succ hxk.out] at hF2
        exact ⟨k + 1, by omega, by go_num, below_set (below_set (below_set (below_set hb2 (Nat.le_refl _) _) (Nat.le_refl _) _) (Nat.le_refl _) _) (Nat.le_refl _) _, _, hF2⟩
      case measure => simp [intOf]; omega
    · go_wp2
      go_ret
      have : k = n := by omega
      subst this
      rw [H.out, List.take_length] at hF
      obtain ⟨fp, hO⟩ := hF.done rfl
      exact ⟨_, fp, rfl, by rw [H.out]; exact hO, hb⟩

theorem toPath_c (p : Path) (v : Value) (w : World) (h : SlR partT w v p) (hn : p.length ≤ 1048576) (hm : ∀ x ∈ p, x.hops.length ≤ 1048576) :
    Calls Try.prog 21 #[.agg #[v]] w fun r w' => ∃ A c fp, r = .returned (.agg #[.slice A p.length c]) ∧ SlO partT 75 w.heap.size w' (.slice A p.length c) p fp ∧ Below w.heap.size w w' := by
  obtain ⟨A, c, rfl, _⟩ := h.form
  have Hm := hid hm
  clear hm
  go_enter Try.func21, Try.ntmps21
  go_wp2_with (fail)
  have hb0 : Below w.heap.size w (((w.alloc (.cells #[.slice A p.length c] 27)).alloc (.cells #[.slice none 0 0] 32)).alloc (.cells #[.slice none 0 0] 32)) :=
    (((Below.refl _ _).alloc (Nat.le_refl _) _).alloc (by simp) _).alloc (by simp; omega) _
  refine (toPathPartS_c p _ _ (h.below hb0) hn Hm.out).mono ?_
  rintro e w1 ⟨v', fp, rfl, hO, hb1⟩
  obtain ⟨A', c', rfl, _⟩ := hO.form
  have hz := hb1.size
  simp at hz
  obtain ⟨q1, q2⟩ := bcell hb1
  go_wp2_with (fail)
  refine bodyPost_ret (v := .agg #[.slice A' p.length c']) (by simp [results, Try.results21, go_sem, q1]) rfl ⟨A', c', fp, rfl, ?_, ?_⟩
  · exact partsO_mono (SlO.set (SlO.set hO (by simp)) (by simp)) (by simp; omega)
  · exact below_set (below_set (hb0.trans (hb1.mono (by simp; omega))) (by omega) _) (by omega) _

end Go.Proofs.Ytemhpcpdeloajaa
