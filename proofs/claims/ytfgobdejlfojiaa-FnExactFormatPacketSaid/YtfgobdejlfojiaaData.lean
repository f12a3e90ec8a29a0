/- The data of the program as plain structures, and what it means that a Go value reads as one of them. (Printed by fam.py.) -/
import Derived.Test.YtfgobdejlfojiaaMem
namespace Go.Proofs.Ytfgobdejlfojiaa
open Go.RowKit
set_option linter.unusedVariables false

def intT : Ty Int := flatT 1 (fun n => [I n]) (by omega) (fun _ => rfl) (fun _ u hu => by simp at hu; rw [hu]; rfl)
def byteT : Ty UInt8 := flatT 1 (fun b => [.int .u8 (b.toNat : Int)]) (by omega) (fun _ => rfl) (fun _ u hu => by simp at hu; rw [hu]; rfl)
theorem take_succ {α : Type} {l : List α} {k : Nat} {x : α} (h : l[k]? = some x) : l.take (k + 1) = l.take k ++ [x] := by
  rw [List.take_add_one, h]; rfl
theorem int_flat (base : Nat) (w : World) (cs : List Value) (a : Int) (h : intT.R w cs a) : intT.O base w cs a [] := ⟨h, rfl⟩
theorem byte_flat (base : Nat) (w : World) (cs : List Value) (a : UInt8) (h : byteT.R w cs a) : byteT.O base w cs a [] := ⟨h, rfl⟩

structure Hop where
  ia : Int
  ing : Int
  eg : Int
  exp : Int
  mac : Int
  deriving DecidableEq

structure ASd where
  isd : Int
  core : Bool
  key : Int
  deriving DecidableEq

structure Lnk where
  a : Int
  ai : Int
  b : Int
  bi : Int
  kind : Int
  deriving DecidableEq

structure Stp where
  ia : Int
  ing : Int
  eg : Int
  deriving DecidableEq

structure Part where
  kind : Int
  ts : Int
  beta : Int
  hops : List Hop
  deriving DecidableEq

abbrev Path := List Part

structure Seg where
  ts : Int
  beta : Int
  hops : List Hop
  deriving DecidableEq

structure Topo where
  ases : List ASd
  links : List Lnk
  deriving DecidableEq

structure Sdb where
  down : List Seg
  core : List Seg
  deriving DecidableEq

structure Pkt where
  kind : Int
  src : Int
  dst : Int
  path : Path
  pidx : Int
  hidx : Int
  beta : Int
  rid : Int
  seq : Int
  pay : List UInt8
  deriving DecidableEq

structure Vrd where
  code : Int
  egress : Int
  pkt : Pkt
  deriving DecidableEq

def hopT : Ty Hop := flatT 5 (fun d : Hop => [I d.ia, I d.ing, I d.eg, I d.exp, I d.mac]) (by omega) (fun _ => rfl) (fun _ u hu => by simp at hu; rcases hu with rfl | rfl | rfl | rfl | rfl <;> rfl)
theorem hop_flat (base : Nat) (w : World) (cs : List Value) (a : Hop) (h : hopT.R w cs a) : hopT.O base w cs a [] := ⟨h, rfl⟩
theorem hop_form {w : World} {cs : List Value} {d : Hop} (h : hopT.R w cs d) : cs = [I (d.ia), I (d.ing), I (d.eg), I (d.exp), I (d.mac)] := h
theorem hop_at {k : Nat} {w : World} {v : Value} {l : List Hop} (h : SlR hopT w v l) (hk : k < l.length) : ∃ g o c x, v = .slice (some ⟨g, o, none⟩) l.length c ∧ g < w.heap.size ∧ Hid (l[k]? = some x) ∧ w.cell? ⟨g, o + k * 5, none⟩ = some (I (x.ia)) ∧ w.cell? ⟨g, o + k * 5 + 1, none⟩ = some (I (x.ing)) ∧ w.cell? ⟨g, o + k * 5 + 2, none⟩ = some (I (x.eg)) ∧ w.cell? ⟨g, o + k * 5 + 3, none⟩ = some (I (x.exp)) ∧ w.cell? ⟨g, o + k * 5 + 4, none⟩ = some (I (x.mac)) := by
  obtain ⟨g, o, c, cs, e, h1, _, h4, h5⟩ := SlR.at_ h hk
  change cs = _ at h4
  subst h4
  exact ⟨g, o, c, _, e, h1, List.getElem?_eq_getElem hk, h5 0 _ rfl, h5 1 _ rfl, h5 2 _ rfl, h5 3 _ rfl, h5 4 _ rfl⟩
def asnT : Ty ASd := flatT 3 (fun d : ASd => [I d.isd, .bool d.core, I d.key]) (by omega) (fun _ => rfl) (fun _ u hu => by simp at hu; rcases hu with rfl | rfl | rfl <;> rfl)
theorem asn_flat (base : Nat) (w : World) (cs : List Value) (a : ASd) (h : asnT.R w cs a) : asnT.O base w cs a [] := ⟨h, rfl⟩
theorem asn_form {w : World} {cs : List Value} {d : ASd} (h : asnT.R w cs d) : cs = [I (d.isd), .bool d.core, I (d.key)] := h
theorem asn_at {k : Nat} {w : World} {v : Value} {l : List ASd} (h : SlR asnT w v l) (hk : k < l.length) : ∃ g o c x, v = .slice (some ⟨g, o, none⟩) l.length c ∧ g < w.heap.size ∧ Hid (l[k]? = some x) ∧ w.cell? ⟨g, o + k * 3, none⟩ = some (I (x.isd)) ∧ w.cell? ⟨g, o + k * 3 + 1, none⟩ = some (.bool x.core) ∧ w.cell? ⟨g, o + k * 3 + 2, none⟩ = some (I (x.key)) := by
  obtain ⟨g, o, c, cs, e, h1, _, h4, h5⟩ := SlR.at_ h hk
  change cs = _ at h4
  subst h4
  exact ⟨g, o, c, _, e, h1, List.getElem?_eq_getElem hk, h5 0 _ rfl, h5 1 _ rfl, h5 2 _ rfl⟩
def linkT : Ty Lnk := flatT 5 (fun d : Lnk => [I d.a, I d.ai, I d.b, I d.bi, I d.kind]) (by omega) (fun _ => rfl) (fun _ u hu => by simp at hu; rcases hu with rfl | rfl | rfl | rfl | rfl <;> rfl)
theorem link_flat (base : Nat) (w : World) (cs : List Value) (a : Lnk) (h : linkT.R w cs a) : linkT.O base w cs a [] := ⟨h, rfl⟩
theorem link_form {w : World} {cs : List Value} {d : Lnk} (h : linkT.R w cs d) : cs = [I (d.a), I (d.ai), I (d.b), I (d.bi), I (d.kind)] := h
theorem link_at {k : Nat} {w : World} {v : Value} {l : List Lnk} (h : SlR linkT w v l) (hk : k < l.length) : ∃ g o c x, v = .slice (some ⟨g, o, none⟩) l.length c ∧ g < w.heap.size ∧ Hid (l[k]? = some x) ∧ w.cell? ⟨g, o + k * 5, none⟩ = some (I (x.a)) ∧ w.cell? ⟨g, o + k * 5 + 1, none⟩ = some (I (x.ai)) ∧ w.cell? ⟨g, o + k * 5 + 2, none⟩ = some (I (x.b)) ∧ w.cell? ⟨g, o + k * 5 + 3, none⟩ = some (I (x.bi)) ∧ w.cell? ⟨g, o + k * 5 + 4, none⟩ = some (I (x.kind)) := by
  obtain ⟨g, o, c, cs, e, h1, _, h4, h5⟩ := SlR.at_ h hk
  change cs = _ at h4
  subst h4
  exact ⟨g, o, c, _, e, h1, List.getElem?_eq_getElem hk, h5 0 _ rfl, h5 1 _ rfl, h5 2 _ rfl, h5 3 _ rfl, h5 4 _ rfl⟩
def stepT : Ty Stp := flatT 3 (fun d : Stp => [I d.ia, I d.ing, I d.eg]) (by omega) (fun _ => rfl) (fun _ u hu => by simp at hu; rcases hu with rfl | rfl | rfl <;> rfl)
theorem step_flat (base : Nat) (w : World) (cs : List Value) (a : Stp) (h : stepT.R w cs a) : stepT.O base w cs a [] := ⟨h, rfl⟩
theorem step_form {w : World} {cs : List Value} {d : Stp} (h : stepT.R w cs d) : cs = [I (d.ia), I (d.ing), I (d.eg)] := h
theorem step_at {k : Nat} {w : World} {v : Value} {l : List Stp} (h : SlR stepT w v l) (hk : k < l.length) : ∃ g o c x, v = .slice (some ⟨g, o, none⟩) l.length c ∧ g < w.heap.size ∧ Hid (l[k]? = some x) ∧ w.cell? ⟨g, o + k * 3, none⟩ = some (I (x.ia)) ∧ w.cell? ⟨g, o + k * 3 + 1, none⟩ = some (I (x.ing)) ∧ w.cell? ⟨g, o + k * 3 + 2, none⟩ = some (I (x.eg)) := by
  obtain ⟨g, o, c, cs, e, h1, _, h4, h5⟩ := SlR.at_ h hk
  change cs = _ at h4
  subst h4
  exact ⟨g, o, c, _, e, h1, List.getElem?_eq_getElem hk, h5 0 _ rfl, h5 1 _ rfl, h5 2 _ rfl⟩
def partT_0 : Ty Part := flatT 3 (fun d : Part => [I d.kind, I d.ts, I d.beta]) (by omega) (fun _ => rfl) (fun _ u hu => by simp at hu; rcases hu with rfl | rfl | rfl <;> rfl)
def partT : Ty Part := (prodT partT_0 (slT hopT 93) id Part.hops)
theorem part_form {w : World} {cs : List Value} {d : Part} (h : partT.R w cs d) : ∃ A3 cA3, cs = [I (d.kind), I (d.ts), I (d.beta), .slice A3 d.hops.length cA3] ∧ (SlR hopT w (.slice A3 d.hops.length cA3) d.hops ∧ d.hops.length ≤ cA3) := by
  obtain ⟨xs0, ys0, e0, g0, r0⟩ := h
  change _ = _ at g0
  subst g0
  obtain ⟨v1, rfl, hv1⟩ := r0
  obtain ⟨A3, cA3, rfl, hc1⟩ := hv1.form
  subst e0
  exact ⟨A3, cA3, rfl, ⟨hv1, hc1⟩⟩
theorem part_mk {w : World} {d : Part} {A3 : Option Addr} {cA3 : Nat} (h3 : SlR hopT w (.slice A3 d.hops.length cA3) d.hops) : partT.R w [I (d.kind), I (d.ts), I (d.beta), .slice A3 d.hops.length cA3] d := ⟨[_, _, _], _, rfl, rfl, ⟨_, rfl, h3⟩⟩
theorem part_oform {base : Nat} {w : World} {cs : List Value} {d : Part} {fp : List Nat} (h : partT.O base w cs d fp) : ∃ A3 cA3 f3, cs = [I (d.kind), I (d.ts), I (d.beta), .slice A3 d.hops.length cA3] ∧ SlO hopT 93 base w (.slice A3 d.hops.length cA3) d.hops f3 ∧ fp = f3 ∧ fp.Nodup := by
  have hnd := partT.nodup _ _ _ _ _ h
  obtain ⟨xs0, ys0, p0, q0, e0, g0, r0, t0, _⟩ := h
  obtain ⟨m0, n0⟩ := g0
  subst m0 n0
  obtain ⟨v1, rfl, hv1⟩ := r0
  obtain ⟨A3, cA3, rfl, hc1⟩ := hv1.form
  subst e0
  subst t0
  exact ⟨A3, cA3, _, rfl, hv1, by simp, hnd⟩
theorem part_omk {base : Nat} {w : World} {d : Part} {A3 : Option Addr} {cA3 : Nat} {f3 : List Nat} (h3 : SlO hopT 93 base w (.slice A3 d.hops.length cA3) d.hops f3) (hnd : (f3).Nodup) : ∃ fp, partT.O base w [I (d.kind), I (d.ts), I (d.beta), .slice A3 d.hops.length cA3] d fp ∧ ∀ b, b ∈ fp ↔ b ∈ f3 := ⟨([] ++ f3), ⟨[_, _, _], _, [], f3, rfl, ⟨rfl, rfl⟩, ⟨_, rfl, h3⟩, rfl, (by first | exact hnd | exact (List.nodup_append.1 hnd).2.1 | simpa using hnd | (simpa using (List.nodup_append.1 hnd).2.1) | (simp at hnd ⊢; simp_all))⟩, fun b => by simp⟩
theorem part_at {k : Nat} {w : World} {v : Value} {l : List Part} (h : SlR partT w v l) (hk : k < l.length) : ∃ g o c x A3 cA3, v = .slice (some ⟨g, o, none⟩) l.length c ∧ g < w.heap.size ∧ Hid (l[k]? = some x) ∧ SlR hopT w (.slice A3 x.hops.length cA3) x.hops ∧ x.hops.length ≤ cA3 ∧ w.cell? ⟨g, o + k * 4, none⟩ = some (I (x.kind)) ∧ w.cell? ⟨g, o + k * 4 + 1, none⟩ = some (I (x.ts)) ∧ w.cell? ⟨g, o + k * 4 + 2, none⟩ = some (I (x.beta)) ∧ w.cell? ⟨g, o + k * 4 + 3, none⟩ = some (.slice A3 x.hops.length cA3) := by
  obtain ⟨g, o, c, cs, e, h1, _, h4, h5⟩ := SlR.at_ h hk
  obtain ⟨A3, cA3, rfl, ⟨k3, m3⟩⟩ := part_form h4
  exact ⟨g, o, c, _, A3, cA3, e, h1, List.getElem?_eq_getElem hk, k3, m3, h5 0 _ rfl, h5 1 _ rfl, h5 2 _ rfl, h5 3 _ rfl⟩
def pathT : Ty Path := slT partT 90
theorem path_form {w : World} {cs : List Value} {d : Path} (h : pathT.R w cs d) : ∃ A0 cA0, cs = [.slice A0 d.length cA0] ∧ (SlR partT w (.slice A0 d.length cA0) d ∧ d.length ≤ cA0) := by
  obtain ⟨v, rfl, hv⟩ := h
  obtain ⟨A, c, rfl, hc⟩ := hv.form
  exact ⟨A, c, rfl, hv, hc⟩
theorem path_mk {w : World} {d : Path} {A0 : Option Addr} {cA0 : Nat} (h0 : SlR partT w (.slice A0 d.length cA0) d) : pathT.R w [.slice A0 d.length cA0] d := ⟨_, rfl, h0⟩
theorem path_oform {base : Nat} {w : World} {cs : List Value} {d : Path} {fp : List Nat} (h : pathT.O base w cs d fp) : ∃ A0 cA0 f0, cs = [.slice A0 d.length cA0] ∧ SlO partT 90 base w (.slice A0 d.length cA0) d f0 ∧ fp = f0 ∧ fp.Nodup := by
  obtain ⟨v, rfl, hv⟩ := h
  obtain ⟨A, c, rfl, hc⟩ := hv.form
  exact ⟨A, c, fp, rfl, hv, rfl, hv.nodup⟩
theorem path_omk {base : Nat} {w : World} {d : Path} {A0 : Option Addr} {cA0 : Nat} {f0 : List Nat} (h0 : SlO partT 90 base w (.slice A0 d.length cA0) d f0) (hnd : (f0).Nodup) : ∃ fp, pathT.O base w [.slice A0 d.length cA0] d fp ∧ ∀ b, b ∈ fp ↔ b ∈ f0 := ⟨f0, ⟨_, rfl, h0⟩, fun b => by simp⟩
theorem path_at {k : Nat} {w : World} {v : Value} {l : List Path} (h : SlR pathT w v l) (hk : k < l.length) : ∃ g o c x A0 cA0, v = .slice (some ⟨g, o, none⟩) l.length c ∧ g < w.heap.size ∧ Hid (l[k]? = some x) ∧ SlR partT w (.slice A0 x.length cA0) x ∧ x.length ≤ cA0 ∧ w.cell? ⟨g, o + k, none⟩ = some (.slice A0 x.length cA0) := by
  obtain ⟨g, o, c, cs, e, h1, _, h4, h5⟩ := SlR.at_ h hk
  obtain ⟨A0, cA0, rfl, ⟨k0, m0⟩⟩ := path_form h4
  exact ⟨g, o, c, _, A0, cA0, e, h1, List.getElem?_eq_getElem hk, k0, m0, by simpa [pathT, slT, flatT] using h5 0 _ rfl⟩
def segT_0 : Ty Seg := flatT 2 (fun d : Seg => [I d.ts, I d.beta]) (by omega) (fun _ => rfl) (fun _ u hu => by simp at hu; rcases hu with rfl | rfl <;> rfl)
def segT : Ty Seg := (prodT segT_0 (slT hopT 93) id Seg.hops)
theorem seg_form {w : World} {cs : List Value} {d : Seg} (h : segT.R w cs d) : ∃ A2 cA2, cs = [I (d.ts), I (d.beta), .slice A2 d.hops.length cA2] ∧ (SlR hopT w (.slice A2 d.hops.length cA2) d.hops ∧ d.hops.length ≤ cA2) := by
  obtain ⟨xs0, ys0, e0, g0, r0⟩ := h
  change _ = _ at g0
  subst g0
  obtain ⟨v1, rfl, hv1⟩ := r0
  obtain ⟨A2, cA2, rfl, hc1⟩ := hv1.form
  subst e0
  exact ⟨A2, cA2, rfl, ⟨hv1, hc1⟩⟩
theorem seg_mk {w : World} {d : Seg} {A2 : Option Addr} {cA2 : Nat} (h2 : SlR hopT w (.slice A2 d.hops.length cA2) d.hops) : segT.R w [I (d.ts), I (d.beta), .slice A2 d.hops.length cA2] d := ⟨[_, _], _, rfl, rfl, ⟨_, rfl, h2⟩⟩
theorem seg_oform {base : Nat} {w : World} {cs : List Value} {d : Seg} {fp : List Nat} (h : segT.O base w cs d fp) : ∃ A2 cA2 f2, cs = [I (d.ts), I (d.beta), .slice A2 d.hops.length cA2] ∧ SlO hopT 93 base w (.slice A2 d.hops.length cA2) d.hops f2 ∧ fp = f2 ∧ fp.Nodup := by
  have hnd := segT.nodup _ _ _ _ _ h
  obtain ⟨xs0, ys0, p0, q0, e0, g0, r0, t0, _⟩ := h
  obtain ⟨m0, n0⟩ := g0
  subst m0 n0
  obtain ⟨v1, rfl, hv1⟩ := r0
  obtain ⟨A2, cA2, rfl, hc1⟩ := hv1.form
  subst e0
  subst t0
  exact ⟨A2, cA2, _, rfl, hv1, by simp, hnd⟩
theorem seg_omk {base : Nat} {w : World} {d : Seg} {A2 : Option Addr} {cA2 : Nat} {f2 : List Nat} (h2 : SlO hopT 93 base w (.slice A2 d.hops.length cA2) d.hops f2) (hnd : (f2).Nodup) : ∃ fp, segT.O base w [I (d.ts), I (d.beta), .slice A2 d.hops.length cA2] d fp ∧ ∀ b, b ∈ fp ↔ b ∈ f2 := ⟨([] ++ f2), ⟨[_, _], _, [], f2, rfl, ⟨rfl, rfl⟩, ⟨_, rfl, h2⟩, rfl, (by first | exact hnd | exact (List.nodup_append.1 hnd).2.1 | simpa using hnd | (simpa using (List.nodup_append.1 hnd).2.1) | (simp at hnd ⊢; simp_all))⟩, fun b => by simp⟩
theorem seg_at {k : Nat} {w : World} {v : Value} {l : List Seg} (h : SlR segT w v l) (hk : k < l.length) : ∃ g o c x A2 cA2, v = .slice (some ⟨g, o, none⟩) l.length c ∧ g < w.heap.size ∧ Hid (l[k]? = some x) ∧ SlR hopT w (.slice A2 x.hops.length cA2) x.hops ∧ x.hops.length ≤ cA2 ∧ w.cell? ⟨g, o + k * 3, none⟩ = some (I (x.ts)) ∧ w.cell? ⟨g, o + k * 3 + 1, none⟩ = some (I (x.beta)) ∧ w.cell? ⟨g, o + k * 3 + 2, none⟩ = some (.slice A2 x.hops.length cA2) := by
  obtain ⟨g, o, c, cs, e, h1, _, h4, h5⟩ := SlR.at_ h hk
  obtain ⟨A2, cA2, rfl, ⟨k2, m2⟩⟩ := seg_form h4
  exact ⟨g, o, c, _, A2, cA2, e, h1, List.getElem?_eq_getElem hk, k2, m2, h5 0 _ rfl, h5 1 _ rfl, h5 2 _ rfl⟩
def topoT : Ty Topo := (prodT (slT asnT 147) (slT linkT 151) Topo.ases Topo.links)
theorem topo_form {w : World} {cs : List Value} {d : Topo} (h : topoT.R w cs d) : ∃ A0 cA0 A1 cA1, cs = [.slice A0 d.ases.length cA0, .slice A1 d.links.length cA1] ∧ (SlR asnT w (.slice A0 d.ases.length cA0) d.ases ∧ d.ases.length ≤ cA0) ∧ (SlR linkT w (.slice A1 d.links.length cA1) d.links ∧ d.links.length ≤ cA1) := by
  obtain ⟨xs0, ys0, e0, g0, r0⟩ := h
  obtain ⟨v0, rfl, hv0⟩ := g0
  obtain ⟨A0, cA0, rfl, hc0⟩ := hv0.form
  obtain ⟨v1, rfl, hv1⟩ := r0
  obtain ⟨A1, cA1, rfl, hc1⟩ := hv1.form
  subst e0
  exact ⟨A0, cA0, A1, cA1, rfl, ⟨hv0, hc0⟩, ⟨hv1, hc1⟩⟩
theorem topo_mk {w : World} {d : Topo} {A0 : Option Addr} {cA0 : Nat} (h0 : SlR asnT w (.slice A0 d.ases.length cA0) d.ases) {A1 : Option Addr} {cA1 : Nat} (h1 : SlR linkT w (.slice A1 d.links.length cA1) d.links) : topoT.R w [.slice A0 d.ases.length cA0, .slice A1 d.links.length cA1] d := ⟨[_], _, rfl, ⟨_, rfl, h0⟩, ⟨_, rfl, h1⟩⟩
theorem topo_oform {base : Nat} {w : World} {cs : List Value} {d : Topo} {fp : List Nat} (h : topoT.O base w cs d fp) : ∃ A0 cA0 A1 cA1 f0 f1, cs = [.slice A0 d.ases.length cA0, .slice A1 d.links.length cA1] ∧ SlO asnT 147 base w (.slice A0 d.ases.length cA0) d.ases f0 ∧ SlO linkT 151 base w (.slice A1 d.links.length cA1) d.links f1 ∧ fp = f0 ++ f1 ∧ fp.Nodup := by
  have hnd := topoT.nodup _ _ _ _ _ h
  obtain ⟨xs0, ys0, p0, q0, e0, g0, r0, t0, _⟩ := h
  obtain ⟨v0, rfl, hv0⟩ := g0
  obtain ⟨A0, cA0, rfl, hc0⟩ := hv0.form
  obtain ⟨v1, rfl, hv1⟩ := r0
  obtain ⟨A1, cA1, rfl, hc1⟩ := hv1.form
  subst e0
  subst t0
  exact ⟨A0, cA0, A1, cA1, _, _, rfl, hv0, hv1, by simp, hnd⟩
theorem topo_omk {base : Nat} {w : World} {d : Topo} {A0 : Option Addr} {cA0 : Nat} {f0 : List Nat} (h0 : SlO asnT 147 base w (.slice A0 d.ases.length cA0) d.ases f0) {A1 : Option Addr} {cA1 : Nat} {f1 : List Nat} (h1 : SlO linkT 151 base w (.slice A1 d.links.length cA1) d.links f1) (hnd : (f0 ++ f1).Nodup) : ∃ fp, topoT.O base w [.slice A0 d.ases.length cA0, .slice A1 d.links.length cA1] d fp ∧ ∀ b, b ∈ fp ↔ b ∈ f0 ++ f1 := ⟨(f0 ++ f1), ⟨[_], _, f0, f1, rfl, ⟨_, rfl, h0⟩, ⟨_, rfl, h1⟩, rfl, (by first | exact hnd | exact (List.nodup_append.1 hnd).2.1 | simpa using hnd | (simpa using (List.nodup_append.1 hnd).2.1) | (simp at hnd ⊢; simp_all))⟩, fun b => by simp⟩
def pktT_0 : Ty Pkt := flatT 3 (fun d : Pkt => [I d.kind, I d.src, I d.dst]) (by omega) (fun _ => rfl) (fun _ u hu => by simp at hu; rcases hu with rfl | rfl | rfl <;> rfl)
def pktT_2 : Ty Pkt := flatT 5 (fun d : Pkt => [I d.pidx, I d.hidx, I d.beta, I d.rid, I d.seq]) (by omega) (fun _ => rfl) (fun _ u hu => by simp at hu; rcases hu with rfl | rfl | rfl | rfl | rfl <;> rfl)
def pktT : Ty Pkt := (prodT pktT_0 (prodT pathT (prodT pktT_2 (slT byteT 5) id Pkt.pay) Pkt.path id) id id)
theorem pkt_form {w : World} {cs : List Value} {d : Pkt} (h : pktT.R w cs d) : ∃ A3 cA3 A9 cA9, cs = [I (d.kind), I (d.src), I (d.dst), .slice A3 d.path.length cA3, I (d.pidx), I (d.hidx), I (d.beta), I (d.rid), I (d.seq), .slice A9 d.pay.length cA9] ∧ (SlR partT w (.slice A3 d.path.length cA3) d.path ∧ d.path.length ≤ cA3) ∧ (SlR byteT w (.slice A9 d.pay.length cA9) d.pay ∧ d.pay.length ≤ cA9) := by
  obtain ⟨xs0, ys0, e0, g0, r0⟩ := h
  change _ = _ at g0
  subst g0
  obtain ⟨xs1, ys1, e1, g1, r1⟩ := r0
  obtain ⟨A3, cA3, rfl, hw3⟩ := path_form g1
  obtain ⟨xs2, ys2, e2, g2, r2⟩ := r1
  change _ = _ at g2
  subst g2
  obtain ⟨v3, rfl, hv3⟩ := r2
  obtain ⟨A9, cA9, rfl, hc3⟩ := hv3.form
  subst e2
  subst e1
  subst e0
  exact ⟨A3, cA3, A9, cA9, rfl, hw3, ⟨hv3, hc3⟩⟩
theorem pkt_mk {w : World} {d : Pkt} {A3 : Option Addr} {cA3 : Nat} (h3 : SlR partT w (.slice A3 d.path.length cA3) d.path) {A9 : Option Addr} {cA9 : Nat} (h9 : SlR byteT w (.slice A9 d.pay.length cA9) d.pay) : pktT.R w [I (d.kind), I (d.src), I (d.dst), .slice A3 d.path.length cA3, I (d.pidx), I (d.hidx), I (d.beta), I (d.rid), I (d.seq), .slice A9 d.pay.length cA9] d := ⟨[_, _, _], _, rfl, rfl, ⟨[_], _, rfl, ⟨_, rfl, h3⟩, ⟨[_, _, _, _, _], _, rfl, rfl, ⟨_, rfl, h9⟩⟩⟩⟩
theorem pkt_oform {base : Nat} {w : World} {cs : List Value} {d : Pkt} {fp : List Nat} (h : pktT.O base w cs d fp) : ∃ A3 cA3 A9 cA9 f3 f9, cs = [I (d.kind), I (d.src), I (d.dst), .slice A3 d.path.length cA3, I (d.pidx), I (d.hidx), I (d.beta), I (d.rid), I (d.seq), .slice A9 d.pay.length cA9] ∧ SlO partT 90 base w (.slice A3 d.path.length cA3) d.path f3 ∧ SlO byteT 5 base w (.slice A9 d.pay.length cA9) d.pay f9 ∧ fp = f3 ++ f9 ∧ fp.Nodup := by
  have hnd := pktT.nodup _ _ _ _ _ h
  obtain ⟨xs0, ys0, p0, q0, e0, g0, r0, t0, _⟩ := h
  obtain ⟨m0, n0⟩ := g0
  subst m0 n0
  obtain ⟨xs1, ys1, p1, q1, e1, g1, r1, t1, _⟩ := r0
  obtain ⟨A3, cA3, z3, rfl, hw3, rfl, _⟩ := path_oform g1
  obtain ⟨xs2, ys2, p2, q2, e2, g2, r2, t2, _⟩ := r1
  obtain ⟨m2, n2⟩ := g2
  subst m2 n2
  obtain ⟨v3, rfl, hv3⟩ := r2
  obtain ⟨A9, cA9, rfl, hc3⟩ := hv3.form
  subst e2
  subst t2
  subst e1
  subst t1
  subst e0
  subst t0
  exact ⟨A3, cA3, A9, cA9, _, _, rfl, hw3, hv3, by simp, hnd⟩
theorem pkt_omk {base : Nat} {w : World} {d : Pkt} {A3 : Option Addr} {cA3 : Nat} {f3 : List Nat} (h3 : SlO partT 90 base w (.slice A3 d.path.length cA3) d.path f3) {A9 : Option Addr} {cA9 : Nat} {f9 : List Nat} (h9 : SlO byteT 5 base w (.slice A9 d.pay.length cA9) d.pay f9) (hnd : (f3 ++ f9).Nodup) : ∃ fp, pktT.O base w [I (d.kind), I (d.src), I (d.dst), .slice A3 d.path.length cA3, I (d.pidx), I (d.hidx), I (d.beta), I (d.rid), I (d.seq), .slice A9 d.pay.length cA9] d fp ∧ ∀ b, b ∈ fp ↔ b ∈ f3 ++ f9 := ⟨([] ++ (f3 ++ ([] ++ f9))), ⟨[_, _, _], _, [], (f3 ++ ([] ++ f9)), rfl, ⟨rfl, rfl⟩, ⟨[_], _, f3, ([] ++ f9), rfl, ⟨_, rfl, h3⟩, ⟨[_, _, _, _, _], _, [], f9, rfl, ⟨rfl, rfl⟩, ⟨_, rfl, h9⟩, rfl, (by first | exact hnd | exact (List.nodup_append.1 hnd).2.1 | simpa using hnd | (simpa using (List.nodup_append.1 hnd).2.1) | (simp at hnd ⊢; simp_all))⟩, rfl, (by first | exact hnd | exact (List.nodup_append.1 hnd).2.1 | simpa using hnd | (simpa using (List.nodup_append.1 hnd).2.1) | (simp at hnd ⊢; simp_all))⟩, rfl, (by first | exact hnd | exact (List.nodup_append.1 hnd).2.1 | simpa using hnd | (simpa using (List.nodup_append.1 hnd).2.1) | (simp at hnd ⊢; simp_all))⟩, fun b => by simp⟩
theorem int_at {k : Nat} {w : World} {v : Value} {l : List Int} (h : SlR intT w v l) (hk : k < l.length) : ∃ g o c x, v = .slice (some ⟨g, o, none⟩) l.length c ∧ g < w.heap.size ∧ Hid (l[k]? = some x) ∧ w.cell? ⟨g, o + k, none⟩ = some (I x) := by
  obtain ⟨g, o, c, cs, e, h1, _, h4, h5⟩ := SlR.at_ h hk
  change cs = _ at h4
  subst h4
  exact ⟨g, o, c, _, e, h1, List.getElem?_eq_getElem hk, by simpa [intT, slT, flatT] using h5 0 _ rfl⟩
theorem byte_at {k : Nat} {w : World} {v : Value} {l : List UInt8} (h : SlR byteT w v l) (hk : k < l.length) : ∃ g o c x, v = .slice (some ⟨g, o, none⟩) l.length c ∧ g < w.heap.size ∧ Hid (l[k]? = some x) ∧ w.cell? ⟨g, o + k, none⟩ = some (.int .u8 (x.toNat : Int)) := by
  obtain ⟨g, o, c, cs, e, h1, _, h4, h5⟩ := SlR.at_ h hk
  change cs = _ at h4
  subst h4
  exact ⟨g, o, c, _, e, h1, List.getElem?_eq_getElem hk, by simpa [byteT, slT, flatT] using h5 0 _ rfl⟩
end Go.Proofs.Ytfgobdejlfojiaa
