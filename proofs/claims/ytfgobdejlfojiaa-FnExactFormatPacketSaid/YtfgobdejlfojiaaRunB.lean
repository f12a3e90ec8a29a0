/- More facts about single operations of this program. -/
import Derived.Test.YtfgobdejlfojiaaRun
namespace Go.Proofs.Ytfgobdejlfojiaa
open Go.RowKit
set_option linter.unusedVariables false

section
variable {P : Program} {n : Nat} {ops : Array Oper} {Q : Exit → Act → World → Prop} {L : Frm} {w : World} {m : Md} {r : IT} {d : Nat} {ty : TypeId} {pos : String} {af : Array Edge} {b : Nat} {os : List Ow}
/-- A load of a struct of one cell that lies inside a box. -/
theorem t_bxp {t tb : TypeId} {g o : Nat} {C : Array Value} {xo : Operand} {u : Value} (hb : w.heap[g]? = some (.cells C tb (0, 0))) (ha : aggB P t = some true) (hs : sizeB P t = some 1) (hx : ev L xo = some (.pointer (some ⟨g, o, none⟩))) (hu : C[o]? = some u) (k : WT P n ops Q r ((d, .agg #[u]) :: L) w) (hn : Nat.blt d n = true) : WT P n ops Q (.st m ⟨some d, .load t xo, ty, pos, af, none⟩ r) L w :=
  t_ldn (cs := [u]) ha hs (w0 := w) (fun j v hv => by
    rcases j with _ | j
    · simp at hv
      subst hv
      rw [cell_box hb]
      exact hu
    · simp at hv) (Below.refl _ _) hx k hn
/-- A store of a struct of one cell into a box. -/
theorem t_stp {t tb : TypeId} {g j : Nat} {C : Array Value} {po xo : Operand} {x u c : Value} (S : Sep b w (bxO g tb C :: os)) (hs : sizeB P t = some 1) (hp : ev L po = some (.pointer (some ⟨g, j, none⟩))) (hx : ev L xo = some x) (hc : C[j]? = some c) (hu : u.oneCell' = true) (huc : x.cells = #[u])
    (k : ∀ w', Below b w w' → Sep b w' (bxO g tb (C.setIfInBounds j u) :: os) → WT P n ops Q r L w') : WT P n ops Q (.st .fin ⟨none, .store t po xo, ty, pos, af, none⟩ r) L w := by
  have hb := S.box
  refine t_store (w' := w.setCell ⟨g, j, none⟩ u) (fun a ha _ _ _ => ?_) (k _ ?_ (S.turn (fp' := fun _ _ => True) fun f hf => ?_))
  · simp [execOp, ha.ev hp, ha.ev hx, Instr.storeAt, Instr.sureAddr, storeVar, huc, run_sizeOf hs, storeCells, Addr.add, run_store1 hb hc hu]
  · obtain ⟨fp, _, hg, _⟩ := S.head
    exact (Below.refl _ _).setCell hg u
  · obtain ⟨h1, h2, h3⟩ := hf
    refine ⟨f, ⟨h1, h2, heap_set h3⟩, fun x hx => .inl hx, (Kept.refl _ _).setCell (by rw [h1]; simp) u⟩
end
theorem b_hop0 (w : World) : (Instr.build 93 #[]).run Try.prog w = .ok (.agg #[I 0, I 0, I 0, I 0, I 0]) w := by kernel_rfl
theorem b_pkt  (w : World) : (Instr.build 51 #[]).run Try.prog w = .ok (.agg #[I 0, I 0, I 0, .slice none 0 0, I 0, I 0, I 0, I 0, I 0, .slice none 0 0]) w := by kernel_rfl
theorem b_pkt_0_3_7_8_9 (a0 : Int) (A3 : Option Addr) (k3 q3 : Nat) (a7 : Int) (a8 : Int) (A9 : Option Addr) (k9 q9 : Nat) (w : World) : (Instr.build 51 #[(0, I a0), (3, .agg #[.slice A3 k3 q3]), (7, I a7), (8, I a8), (9, .slice A9 k9 q9)]).run Try.prog w = .ok (.agg #[I a0, I 0, I 0, .slice A3 k3 q3, I 0, I 0, I 0, I a7, I a8, .slice A9 k9 q9]) w := by kernel_rfl
theorem b_pkt_0_1_2_3_7_8_9 (a0 : Int) (a1 : Int) (a2 : Int) (A3 : Option Addr) (k3 q3 : Nat) (a7 : Int) (a8 : Int) (A9 : Option Addr) (k9 q9 : Nat) (w : World) : (Instr.build 51 #[(0, I a0), (1, I a1), (2, I a2), (3, .agg #[.slice A3 k3 q3]), (7, I a7), (8, I a8), (9, .slice A9 k9 q9)]).run Try.prog w = .ok (.agg #[I a0, I a1, I a2, .slice A3 k3 q3, I 0, I 0, I 0, I a7, I a8, .slice A9 k9 q9]) w := by kernel_rfl
theorem b_pkt_0_1_2_3_4_5_6_7_8_9 (a0 : Int) (a1 : Int) (a2 : Int) (A3 : Option Addr) (k3 q3 : Nat) (a4 : Int) (a5 : Int) (a6 : Int) (a7 : Int) (a8 : Int) (A9 : Option Addr) (k9 q9 : Nat) (w : World) : (Instr.build 51 #[(0, I a0), (1, I a1), (2, I a2), (3, .agg #[.slice A3 k3 q3]), (4, I a4), (5, I a5), (6, I a6), (7, I a7), (8, I a8), (9, .slice A9 k9 q9)]).run Try.prog w = .ok (.agg #[I a0, I a1, I a2, .slice A3 k3 q3, I a4, I a5, I a6, I a7, I a8, .slice A9 k9 q9]) w := by kernel_rfl
theorem b_pkt_0_1_2_4_5_6_7_8_9_3 (a0 : Int) (a1 : Int) (a2 : Int) (a4 : Int) (a5 : Int) (a6 : Int) (a7 : Int) (a8 : Int) (A9 : Option Addr) (k9 q9 : Nat) (A3 : Option Addr) (k3 q3 : Nat) (w : World) : (Instr.build 51 #[(0, I a0), (1, I a1), (2, I a2), (4, I a4), (5, I a5), (6, I a6), (7, I a7), (8, I a8), (9, .slice A9 k9 q9), (3, .agg #[.slice A3 k3 q3])]).run Try.prog w = .ok (.agg #[I a0, I a1, I a2, .slice A3 k3 q3, I a4, I a5, I a6, I a7, I a8, .slice A9 k9 q9]) w := by kernel_rfl
end Go.Proofs.Ytfgobdejlfojiaa
