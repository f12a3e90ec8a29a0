/- The steps of a path, in plain words. -/
import Derived.Test.YtfgobdejlfojiaaPartEnds
import Derived.Test.YtfgobdejlfojiaaFamStep
import Derived.Test.YtfgobdejlfojiaaMemC
namespace Go.Proofs.Ytfgobdejlfojiaa
open Go.RowKit
set_option linter.unusedVariables false

def hopIa (x : Part) (j : Nat) : Int := match x.hops[j]? with
  | none => 0
  | some h => h.ia
def lastOf (l : List Stp) : Stp := (l[l.length - 1]?).getD ⟨0, 0, 0⟩
def firstOf (l : List Stp) : Stp := (l[0]?).getD ⟨0, 0, 0⟩
/-- Whether hop j of part i is the same AS as the last step so far. -/
def joinAt (i : Nat) (x : Part) (l : List Stp) (j : Nat) : Bool := decide (0 < i) && (decide (j = 0) && (decide (0 < l.length) && ((lastOf l).ia == hopIa x j)))
def addHop (i : Nat) (x : Part) (l : List Stp) (j : Nat) : List Stp :=
  if joinAt i x l j then l.set (l.length - 1) { lastOf l with eg := partOut x j } else l ++ [⟨hopIa x j, partIn x j, partOut x j⟩]
def hopsTo (i : Nat) (x : Part) (l : List Stp) (j : Nat) : List Stp := (List.range j).foldl (addHop i x) l
def addPart (p : Path) (l : List Stp) (i : Nat) : List Stp := match p[i]? with
  | none => l
  | some x => hopsTo i x l x.hops.length
def rawSteps (p : Path) (k : Nat) : List Stp := (List.range k).foldl (addPart p) []
def cutFirst (l : List Stp) : List Stp := l.set 0 { firstOf l with ing := 0 }
def cutLast (l : List Stp) : List Stp := l.set (l.length - 1) { lastOf l with eg := 0 }
def pathSteps (p : Path) : List Stp := cutLast (cutFirst (rawSteps p p.length))

theorem hopsTo_succ (i : Nat) (x : Part) (l : List Stp) (j : Nat) : hopsTo i x l (j + 1) = addHop i x (hopsTo i x l j) j := by
  unfold hopsTo; rw [List.range_succ, List.foldl_append]; rfl
theorem rawSteps_succ {p : Path} {k : Nat} {x : Part} (h : p[k]? = some x) : rawSteps p (k + 1) = hopsTo k x (rawSteps p k) x.hops.length := by
  unfold rawSteps; rw [List.range_succ, List.foldl_append]
  show addPart p _ k = _
  unfold addPart; rw [h]
theorem addHop_len (i : Nat) (x : Part) (l : List Stp) (j : Nat) : (addHop i x l j).length ≤ l.length + 1 := by
  unfold addHop; split <;> simp
theorem hopsTo_len (i : Nat) (x : Part) (l : List Stp) (j : Nat) : (hopsTo i x l j).length ≤ l.length + j := by
  induction j with
  | zero => simp [hopsTo]
  | succ j ih => rw [hopsTo_succ]; have := addHop_len i x (hopsTo i x l j) j; omega
theorem rawSteps_len (p : Path) (k : Nat) : (rawSteps p k).length ≤ ((p.take k).map fun x => x.hops.length).sum := by
  induction k with
  | zero => simp [rawSteps]
  | succ k ih =>
    cases h : p[k]? with
    | none =>
      have e : rawSteps p (k + 1) = rawSteps p k := by
        unfold rawSteps; rw [List.range_succ, List.foldl_append]
        show addPart p _ k = _
        unfold addPart; rw [h]
      have h2 : p.length ≤ k := List.getElem?_eq_none_iff.1 h
      rw [e, List.take_of_length_le (by omega)]
      rw [List.take_of_length_le (by omega)] at ih
      exact ih
    | some x =>
      rw [rawSteps_succ h, take_succ h, List.map_append, List.sum_append]
      have := hopsTo_len k x (rawSteps p k) x.hops.length
      simp only [List.map_cons, List.map_nil, List.sum_cons, List.sum_nil]
      omega
theorem take_hops_le (p : Path) (k : Nat) : ((p.take k).map fun x => x.hops.length).sum ≤ sz_path p := by
  have h1 : (p.map fun x => x.hops.length).sum = ((p.take k).map fun x => x.hops.length).sum + ((p.drop k).map fun x => x.hops.length).sum := by
    rw [← List.sum_append, ← List.map_append, List.take_append_drop]
  have h2 : sz_path p = List.length p + (p.map fun x => x.hops.length).sum := rfl
  omega
/-- The bound that each append needs. -/
theorem hopsTo_bound {p : Path} {k : Nat} {x : Part} (h : p[k]? = some x) {j : Nat} (hj : j ≤ x.hops.length) : (hopsTo k x (rawSteps p k) j).length ≤ sz_path p := by
  have h1 := hopsTo_len k x (rawSteps p k) j
  have h2 := rawSteps_len p k
  have h3 := take_hops_le p (k + 1)
  rw [take_succ h, List.map_append, List.sum_append] at h3
  simp only [List.map_cons, List.map_nil, List.sum_cons, List.sum_nil] at h3
  omega
theorem rawSteps_bound (p : Path) (k : Nat) : (rawSteps p k).length ≤ sz_path p := Nat.le_trans (rawSteps_len p k) (take_hops_le p k)
theorem pathSteps_len (p : Path) : (pathSteps p).length ≤ sz_path p := by
  have := rawSteps_bound p p.length
  simpa [pathSteps, cutLast, cutFirst] using this

theorem hops_le_path {p : Path} {x : Part} (h : x ∈ p) : x.hops.length ≤ sz_path p := by
  have := le_sum_of_mem (List.mem_map.2 ⟨x, h, rfl⟩ : sz_part x ∈ p.map sz_part)
  show _ ≤ List.length p + _
  have e : sz_part x = x.hops.length := rfl
  omega

theorem lastOf_at {l : List Stp} {s : Stp} (h : l[l.length - 1]? = some s) : lastOf l = s := by unfold lastOf; rw [h]; rfl
theorem firstOf_at {l : List Stp} {s : Stp} (h : l[0]? = some s) : firstOf l = s := by unfold firstOf; rw [h]; rfl
theorem hopIa_at {x : Part} {j : Nat} {y : Hop} (h : x.hops[j]? = some y) : hopIa x j = y.ia := by unfold hopIa; rw [h]
theorem addHop_join {i : Nat} {x : Part} {l : List Stp} {j : Nat} (h : joinAt i x l j = true) : addHop i x l j = l.set (l.length - 1) { lastOf l with eg := partOut x j } := by unfold addHop; rw [h]; rfl
theorem addHop_new {i : Nat} {x : Part} {l : List Stp} {j : Nat} (h : joinAt i x l j = false) : addHop i x l j = l ++ [⟨hopIa x j, partIn x j, partOut x j⟩] := by unfold addHop; rw [h]; rfl
theorem take_set {α : Type} (l : List α) (a : α) (h : 0 < l.length) : l.take (l.length - 1) ++ [a] = l.set (l.length - 1) a := by
  rw [List.set_eq_take_append_cons_drop, if_pos (by omega), List.drop_eq_nil_of_le (by omega)]

end Go.Proofs.Ytfgobdejlfojiaa
