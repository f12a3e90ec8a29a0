/- Struct values and slice literals of the program's types, as they run. -/
import Derived.Test.YtfgobdejlfojiaaLit
namespace Go.Proofs.Ytfgobdejlfojiaa
open Go.RowKit
set_option linter.unusedVariables false

theorem bs_int1 (a0 : Int) (w : World) : (Instr.buildSlice 100 1 #[(0, I a0)]).run Try.prog w = .ok (.slice (some ⟨w.heap.size, 0, none⟩) 1 1) (w.alloc (.cells #[I a0] 3)) := by kernel_rfl
theorem bs_int2 (a0 a1 : Int) (w : World) : (Instr.buildSlice 100 2 #[(0, I a0), (1, I a1)]).run Try.prog w = .ok (.slice (some ⟨w.heap.size, 0, none⟩) 2 2) (w.alloc (.cells #[I a0, I a1] 3)) := by kernel_rfl
theorem bs_int3 (a0 a1 a2 : Int) (w : World) : (Instr.buildSlice 100 3 #[(0, I a0), (1, I a1), (2, I a2)]).run Try.prog w = .ok (.slice (some ⟨w.heap.size, 0, none⟩) 3 3) (w.alloc (.cells #[I a0, I a1, I a2] 3)) := by kernel_rfl
theorem bs_int4 (a0 a1 a2 a3 : Int) (w : World) : (Instr.buildSlice 100 4 #[(0, I a0), (1, I a1), (2, I a2), (3, I a3)]).run Try.prog w = .ok (.slice (some ⟨w.heap.size, 0, none⟩) 4 4) (w.alloc (.cells #[I a0, I a1, I a2, I a3] 3)) := by kernel_rfl
theorem bs_int5 (a0 a1 a2 a3 a4 : Int) (w : World) : (Instr.buildSlice 100 5 #[(0, I a0), (1, I a1), (2, I a2), (3, I a3), (4, I a4)]).run Try.prog w = .ok (.slice (some ⟨w.heap.size, 0, none⟩) 5 5) (w.alloc (.cells #[I a0, I a1, I a2, I a3, I a4] 3)) := by kernel_rfl
theorem bs_int6 (a0 a1 a2 a3 a4 a5 : Int) (w : World) : (Instr.buildSlice 100 6 #[(0, I a0), (1, I a1), (2, I a2), (3, I a3), (4, I a4), (5, I a5)]).run Try.prog w = .ok (.slice (some ⟨w.heap.size, 0, none⟩) 6 6) (w.alloc (.cells #[I a0, I a1, I a2, I a3, I a4, I a5] 3)) := by kernel_rfl
theorem bs_int7 (a0 a1 a2 a3 a4 a5 a6 : Int) (w : World) : (Instr.buildSlice 100 7 #[(0, I a0), (1, I a1), (2, I a2), (3, I a3), (4, I a4), (5, I a5), (6, I a6)]).run Try.prog w = .ok (.slice (some ⟨w.heap.size, 0, none⟩) 7 7) (w.alloc (.cells #[I a0, I a1, I a2, I a3, I a4, I a5, I a6] 3)) := by kernel_rfl
theorem bs_int8 (a0 a1 a2 a3 a4 a5 a6 a7 : Int) (w : World) : (Instr.buildSlice 100 8 #[(0, I a0), (1, I a1), (2, I a2), (3, I a3), (4, I a4), (5, I a5), (6, I a6), (7, I a7)]).run Try.prog w = .ok (.slice (some ⟨w.heap.size, 0, none⟩) 8 8) (w.alloc (.cells #[I a0, I a1, I a2, I a3, I a4, I a5, I a6, I a7] 3)) := by kernel_rfl
theorem bs_int0 (w : World) : (Instr.buildSlice 100 0 #[]).run Try.prog w = .ok (.slice (some ⟨w.heap.size, 0, none⟩) 0 0) (w.alloc (.cells #[] 3)) := by kernel_rfl
theorem bs_byte0 (w : World) : (Instr.buildSlice 46 0 #[]).run Try.prog w = .ok (.slice (some ⟨w.heap.size, 0, none⟩) 0 0) (w.alloc (.cells #[] 5)) := by kernel_rfl
theorem bs_hop0 (w : World) : (Instr.buildSlice 88 0 #[]).run Try.prog w = .ok (.slice (some ⟨w.heap.size, 0, none⟩) 0 0) (w.alloc (.cells #[] 93)) := by kernel_rfl
theorem bs_step0 (w : World) : (Instr.buildSlice 127 0 #[]).run Try.prog w = .ok (.slice (some ⟨w.heap.size, 0, none⟩) 0 0) (w.alloc (.cells #[] 131)) := by kernel_rfl
theorem bs_part0 (w : World) : (Instr.buildSlice 37 0 #[]).run Try.prog w = .ok (.slice (some ⟨w.heap.size, 0, none⟩) 0 0) (w.alloc (.cells #[] 90)) := by kernel_rfl
theorem bs_path0 (w : World) : (Instr.buildSlice 72 0 #[]).run Try.prog w = .ok (.slice (some ⟨w.heap.size, 0, none⟩) 0 0) (w.alloc (.cells #[] 39)) := by kernel_rfl
theorem bs_byte1 (a : Int) (w : World) : (Instr.buildSlice 46 1 #[(0, .int .u8 a)]).run Try.prog w = .ok (.slice (some ⟨w.heap.size, 0, none⟩) 1 1) (w.alloc (.cells #[.int .u8 a] 5)) := by kernel_rfl
theorem bs_hop1 (c0 c1 c2 c3 c4 : Value) (w : World) : (Instr.buildSlice 88 1 #[(0, .agg #[c0, c1, c2, c3, c4])]).run Try.prog w = .ok (.slice (some ⟨w.heap.size, 0, none⟩) 1 1) (w.alloc (.cells #[c0, c1, c2, c3, c4] 93)) := by kernel_rfl
theorem bs_step1 (c0 c1 c2 : Value) (w : World) : (Instr.buildSlice 127 1 #[(0, .agg #[c0, c1, c2])]).run Try.prog w = .ok (.slice (some ⟨w.heap.size, 0, none⟩) 1 1) (w.alloc (.cells #[c0, c1, c2] 131)) := by kernel_rfl
theorem bs_part1 (c0 c1 c2 c3 : Value) (w : World) : (Instr.buildSlice 37 1 #[(0, .agg #[c0, c1, c2, c3])]).run Try.prog w = .ok (.slice (some ⟨w.heap.size, 0, none⟩) 1 1) (w.alloc (.cells #[c0, c1, c2, c3] 90)) := by kernel_rfl
theorem bs_path1 (c0 : Value) (w : World) : (Instr.buildSlice 72 1 #[(0, .agg #[c0])]).run Try.prog w = .ok (.slice (some ⟨w.heap.size, 0, none⟩) 1 1) (w.alloc (.cells #[c0] 39)) := by kernel_rfl
theorem bs_part2 (c0 c1 c2 c3 d0 d1 d2 d3 : Value) (w : World) : (Instr.buildSlice 37 2 #[(0, .agg #[c0, c1, c2, c3]), (1, .agg #[d0, d1, d2, d3])]).run Try.prog w = .ok (.slice (some ⟨w.heap.size, 0, none⟩) 2 2) (w.alloc (.cells #[c0, c1, c2, c3, d0, d1, d2, d3] 90)) := by kernel_rfl
theorem b_hop (a b c d e : Int) (w : World) : (Instr.build 93 #[(0, I a), (1, I b), (2, I c), (3, I d), (4, I e)]).run Try.prog w = .ok (.agg #[I a, I b, I c, I d, I e]) w := by kernel_rfl
theorem b_part0 (w : World) : (Instr.build 90 #[]).run Try.prog w = .ok (.agg #[I 0, I 0, I 0, .slice none 0 0]) w := by kernel_rfl
theorem b_part (a b c : Int) (A : Option Addr) (k q : Nat) (w : World) : (Instr.build 90 #[(0, I a), (1, I b), (2, I c), (3, .slice A k q)]).run Try.prog w = .ok (.agg #[I a, I b, I c, .slice A k q]) w := by kernel_rfl
theorem b_part3 (a b c : Int) (w : World) : (Instr.build 90 #[(0, I a), (1, I b), (2, I c)]).run Try.prog w = .ok (.agg #[I a, I b, I c, .slice none 0 0]) w := by kernel_rfl
theorem b_path0 (w : World) : (Instr.build 39 #[]).run Try.prog w = .ok (.agg #[.slice none 0 0]) w := by kernel_rfl
theorem b_path (A : Option Addr) (k q : Nat) (w : World) : (Instr.build 39 #[(0, .slice A k q)]).run Try.prog w = .ok (.agg #[.slice A k q]) w := by kernel_rfl
theorem b_seg0 (w : World) : (Instr.build 179 #[]).run Try.prog w = .ok (.agg #[I 0, I 0, .slice none 0 0]) w := by kernel_rfl
theorem b_seg (a b : Int) (A : Option Addr) (k q : Nat) (w : World) : (Instr.build 179 #[(0, I a), (1, I b), (2, .slice A k q)]).run Try.prog w = .ok (.agg #[I a, I b, .slice A k q]) w := by kernel_rfl
theorem b_step (a b c : Int) (w : World) : (Instr.build 131 #[(0, I a), (1, I b), (2, I c)]).run Try.prog w = .ok (.agg #[I a, I b, I c]) w := by kernel_rfl

theorem SlR.cells {α : Type} {T : Ty α} {w : World} {v : Value} {l : List α} (h : SlR T w v l) : v.cells = #[v] ∧ v.oneCell' = true := by
  obtain ⟨A, c, rfl, _⟩ := h.form
  exact ⟨rfl, rfl⟩
theorem SlO.cells {α : Type} {T : Ty α} {e base : Nat} {w : World} {v : Value} {l : List α} {fp : List Nat} (h : SlO T e base w v l fp) : v.cells = #[v] ∧ v.oneCell' = true := h.read.cells

theorem litR_int (l : List Int) : ∀ (w : World) (i : Nat) cs a, (l.map fun a => [I a])[i]? = some cs → l[i]? = some a → intT.R w cs a := by
  intro w i cs a h1 h2
  rw [List.getElem?_map, h2] at h1
  simp at h1
  exact h1.symm
theorem litR_nil {α : Type} {T : Ty α} : ∀ (w : World) (i : Nat) cs a, ([] : List (List Value))[i]? = some cs → ([] : List α)[i]? = some a → T.R w cs a := by
  intro w i cs a h1 h2
  simp at h1
theorem litR_one {α : Type} {T : Ty α} {c : List Value} {x : α} (h : ∀ w, T.R w c x) : ∀ (w : World) (i : Nat) cs a, [c][i]? = some cs → [x][i]? = some a → T.R w cs a := by
  intro w i cs a h1 h2
  cases i with
  | zero => simp at h1 h2; subst h1 h2; exact h w
  | succ i => simp at h1
theorem va1 {α : Type} {T : Ty α} {P : Program} {f : FuncId} {w : World} {v : Value} {x : α} {R : Ending → World → Prop} {vs : List Value} (h : VA T w v x) (hc : ∀ cs, T.R w cs x → Calls P f (Value.agg cs.toArray :: vs).toArray w R) : Calls P f (v :: vs).toArray w R := by
  obtain ⟨cs, rfl, h2⟩ := h
  exact hc cs h2
theorem va2 {α β : Type} {T : Ty α} {U : Ty β} {P : Program} {f : FuncId} {w : World} {v u : Value} {x : α} {y : β} {R : Ending → World → Prop} {vs : List Value} (h : VA T w v x) (h' : VA U w u y) (hc : ∀ cs ds, T.R w cs x → U.R w ds y → Calls P f (Value.agg cs.toArray :: Value.agg ds.toArray :: vs).toArray w R) : Calls P f (v :: u :: vs).toArray w R := by
  obtain ⟨cs, rfl, h2⟩ := h
  obtain ⟨ds, rfl, h3⟩ := h'
  exact hc cs ds h2 h3
theorem hop_va {w : World} {v : Value} {x : Hop} (h : VA hopT w v x) : v = .agg #[I x.ia, I x.ing, I x.eg, I x.exp, I x.mac] := by
  obtain ⟨cs, rfl, h2⟩ := h
  rw [hop_form h2]
theorem hop_mkv (w : World) (x : Hop) : VA hopT w (.agg #[I x.ia, I x.ing, I x.eg, I x.exp, I x.mac]) x := ⟨_, rfl, rfl⟩
theorem asn_va {w : World} {v : Value} {x : ASd} (h : VA asnT w v x) : v = .agg #[I x.isd, .bool x.core, I x.key] := by
  obtain ⟨cs, rfl, h2⟩ := h
  rw [asn_form h2]
theorem asn_mkv (w : World) (x : ASd) : VA asnT w (.agg #[I x.isd, .bool x.core, I x.key]) x := ⟨_, rfl, rfl⟩
theorem link_va {w : World} {v : Value} {x : Lnk} (h : VA linkT w v x) : v = .agg #[I x.a, I x.ai, I x.b, I x.bi, I x.kind] := by
  obtain ⟨cs, rfl, h2⟩ := h
  rw [link_form h2]
theorem link_mkv (w : World) (x : Lnk) : VA linkT w (.agg #[I x.a, I x.ai, I x.b, I x.bi, I x.kind]) x := ⟨_, rfl, rfl⟩
theorem step_va {w : World} {v : Value} {x : Stp} (h : VA stepT w v x) : v = .agg #[I x.ia, I x.ing, I x.eg] := by
  obtain ⟨cs, rfl, h2⟩ := h
  rw [step_form h2]
theorem step_mkv (w : World) (x : Stp) : VA stepT w (.agg #[I x.ia, I x.ing, I x.eg]) x := ⟨_, rfl, rfl⟩
theorem part_va {w : World} {v : Value} {x : Part} (h : VA partT w v x) : ∃ v3, v = .agg #[I x.kind, I x.ts, I x.beta, v3] ∧ SlR hopT w v3 x.hops := by
  obtain ⟨cs, rfl, h2⟩ := h
  obtain ⟨A3, c3, rfl, ⟨h3, _⟩⟩ := part_form h2
  exact ⟨_, rfl, h3⟩
theorem part_mkv {w : World} {v3 : Value} {x : Part} (h3 : SlR hopT w v3 x.hops) : VA partT w (.agg #[I x.kind, I x.ts, I x.beta, v3]) x := by
  obtain ⟨A3, c3, rfl, _⟩ := h3.form
  exact ⟨_, rfl, part_mk h3⟩
theorem path_va {w : World} {v : Value} {x : Path} (h : VA pathT w v x) : ∃ v0, v = .agg #[v0] ∧ SlR partT w v0 x := by
  obtain ⟨cs, rfl, h2⟩ := h
  obtain ⟨A0, c0, rfl, ⟨h0, _⟩⟩ := path_form h2
  exact ⟨_, rfl, h0⟩
theorem path_mkv {w : World} {v0 : Value} {x : Path} (h0 : SlR partT w v0 x) : VA pathT w (.agg #[v0]) x := by
  obtain ⟨A0, c0, rfl, _⟩ := h0.form
  exact ⟨_, rfl, path_mk h0⟩
theorem seg_va {w : World} {v : Value} {x : Seg} (h : VA segT w v x) : ∃ v2, v = .agg #[I x.ts, I x.beta, v2] ∧ SlR hopT w v2 x.hops := by
  obtain ⟨cs, rfl, h2⟩ := h
  obtain ⟨A2, c2, rfl, ⟨h2, _⟩⟩ := seg_form h2
  exact ⟨_, rfl, h2⟩
theorem seg_mkv {w : World} {v2 : Value} {x : Seg} (h2 : SlR hopT w v2 x.hops) : VA segT w (.agg #[I x.ts, I x.beta, v2]) x := by
  obtain ⟨A2, c2, rfl, _⟩ := h2.form
  exact ⟨_, rfl, seg_mk h2⟩
theorem topo_va {w : World} {v : Value} {x : Topo} (h : VA topoT w v x) : ∃ v0 v1, v = .agg #[v0, v1] ∧ SlR asnT w v0 x.ases ∧ SlR linkT w v1 x.links := by
  obtain ⟨cs, rfl, h2⟩ := h
  obtain ⟨A0, c0, A1, c1, rfl, ⟨h0, _⟩, ⟨h1, _⟩⟩ := topo_form h2
  exact ⟨_, _, rfl, h0, h1⟩
theorem topo_mkv {w : World} {v0 v1 : Value} {x : Topo} (h0 : SlR asnT w v0 x.ases) (h1 : SlR linkT w v1 x.links) : VA topoT w (.agg #[v0, v1]) x := by
  obtain ⟨A0, c0, rfl, _⟩ := h0.form
  obtain ⟨A1, c1, rfl, _⟩ := h1.form
  exact ⟨_, rfl, topo_mk h0 h1⟩
theorem pkt_va {w : World} {v : Value} {x : Pkt} (h : VA pktT w v x) : ∃ v3 v9, v = .agg #[I x.kind, I x.src, I x.dst, v3, I x.pidx, I x.hidx, I x.beta, I x.rid, I x.seq, v9] ∧ SlR partT w v3 x.path ∧ SlR byteT w v9 x.pay := by
  obtain ⟨cs, rfl, h2⟩ := h
  obtain ⟨A3, c3, A9, c9, rfl, ⟨h3, _⟩, ⟨h9, _⟩⟩ := pkt_form h2
  exact ⟨_, _, rfl, h3, h9⟩
theorem pkt_mkv {w : World} {v3 v9 : Value} {x : Pkt} (h3 : SlR partT w v3 x.path) (h9 : SlR byteT w v9 x.pay) : VA pktT w (.agg #[I x.kind, I x.src, I x.dst, v3, I x.pidx, I x.hidx, I x.beta, I x.rid, I x.seq, v9]) x := by
  obtain ⟨A3, c3, rfl, _⟩ := h3.form
  obtain ⟨A9, c9, rfl, _⟩ := h9.form
  exact ⟨_, rfl, pkt_mk h3 h9⟩

end Go.Proofs.Ytfgobdejlfojiaa
