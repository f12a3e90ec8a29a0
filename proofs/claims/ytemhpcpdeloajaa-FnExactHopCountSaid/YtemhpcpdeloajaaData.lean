/- The data of the program as plain structures, and what it means that a Go value reads as one of them. -/
import Derived.Test.YtemhpcpdeloajaaMem
namespace Go.Proofs.Ytemhpcpdeloajaa
open Go.RowKit
set_option linter.unusedVariables false

structure Hop where
  ia : Int
  ing : Int
  eg : Int
  exp : Int
  mac : Int
  deriving DecidableEq

structure Part where
  kind : Int
  ts : Int
  beta : Int
  hops : List Hop
  deriving DecidableEq

abbrev Path := List Part

def hopT : Ty Hop := flatT 5 (fun h => [I h.ia, I h.ing, I h.eg, I h.exp, I h.mac]) (by omega) (fun _ => rfl) (fun _ u hu => by simp at hu; rcases hu with rfl | rfl | rfl | rfl | rfl <;> rfl)
def headT : Ty Part := flatT 3 (fun p => [I p.kind, I p.ts, I p.beta]) (by omega) (fun _ => rfl) (fun _ u hu => by simp at hu; rcases hu with rfl | rfl | rfl <;> rfl)
def partT : Ty Part := prodT headT (slT hopT 80) id Part.hops
def pathT : Ty Path := slT partT 75
def intT : Ty Int := flatT 1 (fun n => [I n]) (by omega) (fun _ => rfl) (fun _ u hu => by simp at hu; rw [hu]; rfl)

theorem hopT_flat (base : Nat) (w : World) (cs : List Value) (a : Hop) (h : hopT.R w cs a) : hopT.O base w cs a [] := ⟨h, rfl⟩
theorem intT_flat (base : Nat) (w : World) (cs : List Value) (a : Int) (h : intT.R w cs a) : intT.O base w cs a [] := ⟨h, rfl⟩

theorem hopT_mono {base base' : Nat} {w : World} {cs : List Value} {a : Hop} {f : List Nat} (h : hopT.O base w cs a f) : hopT.O base' w cs a f := h
theorem intT_mono {base base' : Nat} {w : World} {cs : List Value} {a : Int} {f : List Nat} (h : intT.O base w cs a f) : intT.O base' w cs a f := h
theorem hopsO_mono {base base' e : Nat} {w : World} {v : Value} {l : List Hop} {f : List Nat} (h : SlO hopT e base w v l f) (hb : base' ≤ base) : SlO hopT e base' w v l f := h.mono (fun _ _ _ _ x => hopT_mono x) hb
theorem partT_mono {base base' : Nat} (hb : base' ≤ base) {w : World} {cs : List Value} {a : Part} {f : List Nat} (h : partT.O base w cs a f) : partT.O base' w cs a f := by
  obtain ⟨xs, ys, f, g, h1, h2, ⟨v, h3, h4⟩, h5, h6⟩ := h
  exact ⟨xs, ys, f, g, h1, h2, ⟨v, h3, hopsO_mono h4 hb⟩, h5, h6⟩
theorem partsO_mono {base base' e : Nat} {w : World} {v : Value} {l : List Part} {f : List Nat} (h : SlO partT e base w v l f) (hb : base' ≤ base) : SlO partT e base' w v l f := h.mono (fun _ _ _ _ x => partT_mono hb x) hb
theorem pathT_mono {base base' : Nat} (hb : base' ≤ base) {w : World} {cs : List Value} {a : Path} {f : List Nat} (h : pathT.O base w cs a f) : pathT.O base' w cs a f := by
  obtain ⟨v, h1, h2⟩ := h
  exact ⟨v, h1, partsO_mono h2 hb⟩

section
variable {k : Nat} {w : World} {v : Value}

theorem hops_at {hs : List Hop} (h : SlR hopT w v hs) (hk : k < hs.length) :
    ∃ g o c x, v = .slice (some ⟨g, o, none⟩) hs.length c ∧ g < w.heap.size ∧ Hid (hs[k]? = some x) ∧ w.cell? ⟨g, o + k * 5, none⟩ = some (I x.ia) ∧ w.cell? ⟨g, o + k * 5 + 1, none⟩ = some (I x.ing) ∧
      w.cell? ⟨g, o + k * 5 + 2, none⟩ = some (I x.eg) ∧ w.cell? ⟨g, o + k * 5 + 3, none⟩ = some (I x.exp) ∧ w.cell? ⟨g, o + k * 5 + 4, none⟩ = some (I x.mac) := by
  obtain ⟨g, o, c, cs, e, h1, _, h4, h5⟩ := SlR.at_ h hk
  change cs = _ at h4
  subst h4
  exact ⟨g, o, c, _, e, h1, List.getElem?_eq_getElem hk, h5 0 _ rfl, h5 1 _ rfl, h5 2 _ rfl, h5 3 _ rfl, h5 4 _ rfl⟩

theorem parts_at {ps : List Part} (h : SlR partT w v ps) (hk : k < ps.length) :
    ∃ g o c x A d, v = .slice (some ⟨g, o, none⟩) ps.length c ∧ g < w.heap.size ∧ Hid (ps[k]? = some x) ∧ x.hops.length ≤ d ∧ SlR hopT w (.slice A x.hops.length d) x.hops ∧ w.cell? ⟨g, o + k * 4, none⟩ = some (I x.kind) ∧ w.cell? ⟨g, o + k * 4 + 1, none⟩ = some (I x.ts) ∧
      w.cell? ⟨g, o + k * 4 + 2, none⟩ = some (I x.beta) ∧ w.cell? ⟨g, o + k * 4 + 3, none⟩ = some (.slice A x.hops.length d) := by
  obtain ⟨g, o, c, cs, e, h1, _, ⟨xs, ys, h4, h5, ⟨u, h6, h7⟩⟩, h8⟩ := SlR.at_ h hk
  change xs = _ at h5
  subst h5
  subst h6
  subst h4
  obtain ⟨A, d, rfl, hd⟩ := h7.form
  exact ⟨g, o, c, _, A, d, e, h1, List.getElem?_eq_getElem hk, hd, h7, h8 0 _ rfl, h8 1 _ rfl, h8 2 _ rfl, h8 3 _ rfl⟩

theorem paths_at {ps : List Path} (h : SlR pathT w v ps) (hk : k < ps.length) :
    ∃ g o c x A d, v = .slice (some ⟨g, o, none⟩) ps.length c ∧ g < w.heap.size ∧ Hid (ps[k]? = some x) ∧ x.length ≤ d ∧ SlR partT w (.slice A x.length d) x ∧ w.cell? ⟨g, o + k, none⟩ = some (.slice A x.length d) := by
  obtain ⟨g, o, c, cs, e, h1, _, ⟨u, h4, hr⟩, h5⟩ := SlR.at_ h hk
  subst h4
  obtain ⟨A, d, rfl, hd⟩ := hr.form
  exact ⟨g, o, c, _, A, d, e, h1, List.getElem?_eq_getElem hk, hd, hr, by simpa [pathT, slT] using h5 0 _ rfl⟩

theorem ints_at {l : List Int} (h : SlR intT w v l) (hk : k < l.length) :
    ∃ g o c x, v = .slice (some ⟨g, o, none⟩) l.length c ∧ g < w.heap.size ∧ Hid (l[k]? = some x) ∧ w.cell? ⟨g, o + k, none⟩ = some (I x) := by
  obtain ⟨g, o, c, cs, e, h1, _, h4, h5⟩ := SlR.at_ h hk
  change cs = _ at h4
  subst h4
  exact ⟨g, o, c, _, e, h1, List.getElem?_eq_getElem hk, by simpa [intT, flatT] using h5 0 _ rfl⟩
end

theorem take_succ {α : Type} {l : List α} {k : Nat} {x : α} (h : l[k]? = some x) : l.take (k + 1) = l.take k ++ [x] := by
  rw [List.take_add_one, h]; rfl

end Go.Proofs.Ytemhpcpdeloajaa
