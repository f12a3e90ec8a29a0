/- Parts of segments: ChainAdd, BetaAt, MakePart, lastHopOf, JoinUpDown, of the program and of the reference. -/
import Derived.Test.YtfgobdejlfojiaaWkA
import Derived.Test.YtfgobdejlfojiaaPartEnds
import Derived.Test.YtfgobdejlfojiaaHole
import Derived.Test.YtfgobdejlfojiaaSepN
namespace Go.Proofs.Ytfgobdejlfojiaa
open Go.RowKit
set_option linter.unusedVariables false
set_option maxRecDepth 20000

def chainAdd (b : Int) (l : List Int) : Int := l.foldl addM b
theorem chain_succ {b : Int} {l : List Int} {k : Nat} {x : Int} (h : l[k]? = some x) : chainAdd b (l.take (k + 1)) = addM (chainAdd b (l.take k)) x := by
  unfold chainAdd; rw [take_succ h, List.foldl_append]; rfl

def segBeta (s : Seg) (i : Int) : Int := if inR i 0 s.hops.length then chainAdd s.beta ((s.hops.take i.toNat).map Hop.mac) else 0

theorem impl_copyHops (l : List Hop) (v : Value) (w : World) (h : SlR hopT w v l) (hz : l.length ≤ 1048576) : Calls Try.prog 156 #[v] w fun e w' => ∃ v fp, e = .returned v ∧ SlO hopT 93 w.heap.size w' v l fp ∧ Below w.heap.size w w' := by
  have X0 := Below.refl w.heap.size w
  refine enter Try.func156 rfl Try.ntmps156 rfl ?_
  refine w_seq ?_
  refine w_region ?_
  have S := Sep.nil w
  have B := Below.refl w.heap.size w
  have Hb := Nat.le_refl w.heap.size
  refine t_assign rfl ?_ rfl
  refine t_done ?_
  refine x_seq ?_
  refine w_seq ?_
  refine w_region ?_
  refine t_lit (T := hopT) (css := []) (l := []) hop_flat S bs_hop0 rfl rfl rfl rfl (Nat.zero_le _) litR_nil ?_ rfl rfl
  intro u3 w1 x2 S
  have B := bx Hb B x2
  refine t_move rfl ?_ rfl
  refine t_cat hop_flat e_hop S (by first | assumption | exact SlR.below (by assumption) B) rfl rfl rfl (by first | omega | (simp [-List.length_flatMap]; omega)) (by (simp [maxLen, -List.length_flatMap]; try omega)) ?_ rfl
  intro v5 w3 x4 S
  have B := B.trans x4
  refine t_assign rfl ?_ rfl
  refine t_done ?_
  refine x_seq ?_
  refine w_ret ?_
  refine x_ret1 rfl rfl ?_
  obtain ⟨fp, hO⟩ := (S.mono X0.size).head
  exact ⟨_, fp, rfl, hO, ext_trans X0 B⟩
theorem rev_snoc {l : List Hop} {i : Int} {x : Hop} (h0 : 0 ≤ i) (h : l[i.toNat]? = some x) : (l.drop (i - 1 + 1).toNat).reverse = (l.drop (i + 1).toNat).reverse ++ [x] := by
  have h2 := List.getElem?_eq_some_iff.1 h
  rw [show (i - 1 + 1).toNat = i.toNat by omega, show (i + 1).toNat = i.toNat + 1 by omega, List.drop_eq_getElem_cons h2.1, List.reverse_cons, h2.2]

def makePart (s : Seg) (kind i : Int) : Part := if inR i 0 ((s.hops.length : Int) - 1) && inR kind 1 4 then (if isRev kind then ⟨kind, s.ts, segBeta s s.hops.length, (s.hops.drop i.toNat).reverse⟩ else ⟨kind, s.ts, segBeta s i, s.hops.drop i.toNat⟩) else ⟨0, 0, 0, []⟩
theorem make_none {s : Seg} {kind i : Int} (h : (inR i 0 ((s.hops.length : Int) - 1) && inR kind 1 4) = false) : makePart s kind i = ⟨0, 0, 0, []⟩ := by unfold makePart; rw [h]; rfl
theorem make_rev {s : Seg} {kind i : Int} (h1 : inR i 0 ((s.hops.length : Int) - 1) = true) (h2 : inR kind 1 4 = true) (h3 : isRev kind = true) : makePart s kind i = ⟨kind, s.ts, segBeta s s.hops.length, (s.hops.drop i.toNat).reverse⟩ := by unfold makePart; rw [h1, h2, h3]; rfl
theorem make_fwd {s : Seg} {kind i : Int} (h1 : inR i 0 ((s.hops.length : Int) - 1) = true) (h2 : inR kind 1 4 = true) (h3 : isRev kind = false) : makePart s kind i = ⟨kind, s.ts, segBeta s i, s.hops.drop i.toNat⟩ := by unfold makePart; rw [h1, h2, h3]; rfl
end Go.Proofs.Ytfgobdejlfojiaa
