/- Paths in plain words: which verify, which are well formed, simple, usable. -/
import Derived.Test.YtfgobdejlfojiaaWkG
import Derived.Test.YtfgobdejlfojiaaWkN
import Derived.Test.YtfgobdejlfojiaaTransit
import Derived.Test.YtfgobdejlfojiaaLeast
namespace Go.Proofs.Ytfgobdejlfojiaa
open Go.RowKit
set_option linter.unusedVariables false
set_option maxRecDepth 20000

def stepOkE (t : Topo) (s : Stp) : Bool := transit (ifKind t s.ia s.ing) (ifKind t s.ia s.eg) && (decide (s.ing ≠ s.eg) || decide (s.ing = 0))
def cntK (t : Topo) (kind : Int) (l : List Stp) : Nat := (l.filter fun s => decide (ifKind t s.ia s.eg = kind)).length
theorem cnt_succ {t : Topo} {kind : Int} {l : List Stp} {k : Nat} {x : Stp} (h : l[k]? = some x) : cntK t kind (l.take (k + 1)) = cntK t kind (l.take k) + (if ifKind t x.ia x.eg = kind then 1 else 0) := by
  unfold cntK
  rw [take_succ h, List.filter_append, List.length_append]
  by_cases hc : ifKind t x.ia x.eg = kind <;> simp [hc]
theorem cnt_le (t : Topo) (kind : Int) (l : List Stp) : cntK t kind l ≤ l.length := List.length_filter_le ..
def forbid (t : Topo) (l : List Stp) : Int := match l.findIdx? (fun s => !stepOkE t s) with
  | none => -1
  | some i => i
theorem forbid_at {t : Topo} {l : List Stp} {k : Nat} {x : Stp} (h : l[k]? = some x) (ha : (l.take k).all (stepOkE t) = true) (hx : stepOkE t x = false) : forbid t l = k := by
  have h2 := List.getElem?_eq_some_iff.1 h
  have hkl := h2.1
  have : l.findIdx? (fun s => !stepOkE t s) = some k := by
    rw [List.findIdx?_eq_some_iff_getElem]
    refine ⟨h2.1, by rw [h2.2, hx]; rfl, fun j hj => ?_⟩
    rw [List.all_eq_true] at ha
    have := ha (l[j]'(by omega)) (by rw [List.mem_take_iff_getElem]; exact ⟨j, by omega, rfl⟩)
    simp [this]
  unfold forbid; rw [this]
theorem forbid_none {t : Topo} {l : List Stp} (ha : l.all (stepOkE t) = true) : forbid t l = -1 := by
  have : l.findIdx? (fun s => !stepOkE t s) = none := by
    rw [List.findIdx?_eq_none_iff]
    rw [List.all_eq_true] at ha
    intro x hx
    simp [ha x hx]
  unfold forbid; rw [this]

def place (k : Int) : Int := if k = 1 then 1 else if k = 2 then 2 else if k = 3 then 2 else 3
def lastIa (y : Part) : Int := match y.hops[y.hops.length - 1]? with
  | some h => h.ia
  | none => 0
def firstIa (y : Part) : Int := match y.hops[0]? with
  | some h => h.ia
  | none => 0
def joinOk (p : Path) (k : Nat) : Bool := match p[k]?, p[k + 1]? with
  | some y, some x => decide (place y.kind < place x.kind) && decide (lastIa y = firstIa x)
  | _, _ => true
def wellFormed (t : Topo) (p : Path) : Bool := inR (List.length p) 1 3 && p.all (validPart t) && (List.range (List.length p - 1)).all (joinOk p)
theorem joinOk_eq {p : Path} {k : Nat} {x y : Part} (h : p[k]? = some y) (h' : p[k + 1]? = some x) : joinOk p k = (decide (place y.kind < place x.kind) && decide (lastIa y = firstIa x)) := by unfold joinOk; rw [h, h']
theorem valid_len {t : Topo} {x : Part} (h : validPart t x = true) : 1 ≤ x.hops.length := by
  unfold validPart hopsOk at h
  simp only [Bool.and_eq_true] at h
  have := (inR_iff.1 h.1.1.1.1.1).1
  omega
def fresh (l : List Int) (k : Nat) : Bool := match l[k]? with
  | some x => !(l.take k).contains x
  | none => true
def simplePath (t : Topo) (p : Path) : Bool := wellFormed t p && (List.range (nums (pathSteps p)).length).all (fresh (nums (pathSteps p)))
def partNow (now : Int) (x : Part) : Bool := decide (x.ts ≤ now) && decide (now ≤ leastE x.hops)
def usable (t : Topo) (p : Path) (now : Int) : Bool := simplePath t p && verifyPath t p && p.all (partNow now)
end Go.Proofs.Ytfgobdejlfojiaa
