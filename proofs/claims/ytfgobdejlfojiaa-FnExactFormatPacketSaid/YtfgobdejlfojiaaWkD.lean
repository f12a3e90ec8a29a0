/- hopInts, PathInts of the program. -/
import Derived.Test.YtfgobdejlfojiaaHole
import Derived.Test.YtfgobdejlfojiaaPathInts
namespace Go.Proofs.Ytfgobdejlfojiaa
open Go.RowKit
set_option linter.unusedVariables false
set_option maxRecDepth 20000

theorem impl_hopInts (x : Hop) (w : World) : Calls Try.prog 185 #[.agg #[I x.ia, I x.ing, I x.eg, I x.exp, I x.mac]] w fun e w' => ∃ v fp, e = .returned v ∧ SlO intT 3 w.heap.size w' v (piH x) fp ∧ Below w.heap.size w w' := by
  have hx := hop_mkv w x
  have X0 := Below.refl w.heap.size w
  refine enter Try.func185 rfl Try.ntmps185 rfl ?_
  refine w_seq ?_
  refine w_region ?_
  refine t_boxr (by assumption) rfl ?_ rfl rfl
  intro p1 w1 x2 hp1
  replace hx := hx.below x2
  have X0 := ext_trans X0 x2
  have S := Sep.nil w1
  have B := Below.refl w1.heap.size w1
  have Hb := Nat.le_refl w1.heap.size
  refine t_assign rfl ?_ rfl
  refine t_done ?_
  refine x_seq ?_
  refine w_seq ?_
  refine w_region ?_
  refine t_fld ln_hop_0 (by assumption) fb_hop_0 rfl ?_ rfl
  intro p3 hp3
  refine t_ldi (by assumption) ab_int B rfl ?_ rfl
  refine t_fld ln_hop_1 (by assumption) fb_hop_1 rfl ?_ rfl
  intro p5 hp5
  refine t_ldi (by assumption) ab_int B rfl ?_ rfl
  refine t_fld ln_hop_2 (by assumption) fb_hop_2 rfl ?_ rfl
  intro p7 hp7
  refine t_ldi (by assumption) ab_int B rfl ?_ rfl
  refine t_fld ln_hop_3 (by assumption) fb_hop_3 rfl ?_ rfl
  intro p9 hp9
  refine t_ldi (by assumption) ab_int B rfl ?_ rfl
  refine t_fld ln_hop_4 (by assumption) fb_hop_4 rfl ?_ rfl
  intro p11 hp11
  refine t_ldi (by assumption) ab_int B rfl ?_ rfl
  refine t_lit (T := intT) (l := [x.ia, x.ing, x.eg, x.exp, x.mac]) (css := ([x.ia, x.ing, x.eg, x.exp, x.mac]).map fun a => [I a]) int_flat S (fun w => bs_int5 _ _ _ _ _ w) rfl rfl rfl rfl (by simp [maxLen]) (litR_int _) ?_ rfl rfl
  intro u13 w3 x4 S
  have B := bx Hb B x4
  refine t_assign rfl ?_ rfl
  refine t_done ?_
  refine x_seq ?_
  refine w_ret ?_
  refine x_ret1 rfl rfl ?_
  obtain ⟨fp, hO⟩ := (S.mono X0.size).head
  exact ⟨_, fp, rfl, hO, ext_trans X0 B⟩

theorem pathInts_len (p : Path) : (pathInts p).length ≤ 5 * sz_path p := intsOf_len piP piH (fun _ => by simp [piP]) (fun _ => by simp [piH]) p

end Go.Proofs.Ytfgobdejlfojiaa
