/- Links of a topology: usesInterface, LinkIndex, RemoteEnd, InterfaceKind, of the program and of the reference. -/
import Derived.Test.YtfgobdejlfojiaaNum
import Derived.Test.YtfgobdejlfojiaaFamTopo
namespace Go.Proofs.Ytfgobdejlfojiaa
open Go.RowKit
set_option linter.unusedVariables false

/-- A link ends at an interface of an AS. -/
def ends (l : Lnk) (r d : Int) : Bool := (l.a == r && l.ai == d) || (l.b == r && l.bi == d)
/-- The place of the first link that does, -1 if there is none. -/
def findL (l : List Lnk) (r d : Int) : Option Nat := l.findIdx? fun x => ends x r d
def idxI (o : Option Nat) : Int := match o with
  | none => -1
  | some i => i

theorem impl_ends (l : Lnk) (r d : Int) (w : World) : Calls Try.prog 191 #[.agg #[I l.a, I l.ai, I l.b, I l.bi, I l.kind], I r, I d] w fun e w' => e = .returned (.bool (ends l r d)) ∧ Below w.heap.size w w' := by
  obtain ⟨q, Hq⟩ : ∃ q, Hid (q = ends l r d) := ⟨_, rfl⟩
  rw [← Hq.out]
  cases h1 : (l.a == r) <;> cases h2 : (l.ai == d) <;> cases h3 : (l.b == r) <;> cases h4 : (l.bi == d)
  all_goals
    go_enter Try.func191, Try.ntmps191
    go_wp2
    go_ret
    exact ⟨by rw [Hq.out]; simp [ends, h1, h2, h3, h4], ext_alloc1 _ _⟩
theorem spec_ends (l : Lnk) (r d : Int) (w : World) : Calls Try.prog 189 #[.agg #[I l.a, I l.ai, I l.b, I l.bi, I l.kind], I r, I d] w fun e w' => e = .returned (.bool (ends l r d)) ∧ Below w.heap.size w w' := by
  obtain ⟨q, Hq⟩ : ∃ q, Hid (q = ends l r d) := ⟨_, rfl⟩
  rw [← Hq.out]
  cases h1 : (l.a == r) <;> cases h2 : (l.ai == d) <;> cases h3 : (l.b == r) <;> cases h4 : (l.bi == d)
  all_goals
    go_enter Try.func189, Try.ntmps189
    go_wp2
    go_ret
    exact ⟨by rw [Hq.out]; simp [ends, h1, h2, h3, h4], ext_alloc1 _ _⟩

theorem findL_step {l : List Lnk} {r d : Int} {k : Nat} {x : Lnk} (h : (l.take k).all (fun y => !ends y r d) = true) (hx : l[k]? = some x) (hf : ends x r d = false) : (l.take (k + 1)).all (fun y => !ends y r d) = true := by
  rw [take_succ hx, List.all_append, h]; simp [hf]
theorem findL_hit {l : List Lnk} {r d : Int} {k : Nat} {x : Lnk} (h : (l.take k).all (fun y => !ends y r d) = true) (hx : l[k]? = some x) (hf : ends x r d = true) : findL l r d = some k := by
  unfold findL
  rw [List.findIdx?_eq_some_iff_getElem]
  obtain ⟨hlt, rfl⟩ := List.getElem?_eq_some_iff.1 hx
  refine ⟨hlt, by simpa using hf, fun j hj => ?_⟩
  rw [List.all_eq_true] at h
  have := h (l[j]'(by omega)) (List.mem_take_iff_getElem.2 ⟨j, by omega, rfl⟩)
  simpa using this
theorem findL_none {l : List Lnk} {r d : Int} (h : l.all (fun y => !ends y r d) = true) : findL l r d = none := by
  unfold findL
  rw [List.findIdx?_eq_none_iff]
  intro x hx
  rw [List.all_eq_true] at h
  simpa using h x hx
theorem findL_at {l : List Lnk} {r d : Int} {k : Nat} (h : findL l r d = some k) : ∃ x, l[k]? = some x ∧ ends x r d = true := by
  unfold findL at h
  rw [List.findIdx?_eq_some_iff_getElem] at h
  obtain ⟨hlt, h1, _⟩ := h
  exact ⟨_, List.getElem?_eq_getElem hlt, h1⟩

theorem impl_LinkIndex (t : Topo) (cs : List Value) (r d : Int) (w : World) (h : topoT.R w cs t) (hz : sz_topo t ≤ 1048576) : Calls Try.prog 178 #[.agg cs.toArray, I r, I d] w fun e w' => e = .returned (I (idxI (findL t.links r d))) ∧ Below w.heap.size w w' := by
  obtain ⟨A0, cA0, A1, cA1, rfl, ⟨_, _⟩, ⟨h, _⟩⟩ := topo_form h
  obtain ⟨n, H⟩ : ∃ n, Hid (n = t.links.length) := ⟨_, rfl⟩
  have hn : n ≤ 1048576 := by rw [H.out]; unfold sz_topo at hz; omega
  obtain ⟨y, Hy⟩ : ∃ y, Hid (y = findL t.links r d) := ⟨_, rfl⟩
  rw [← Hy.out]
  clear hz
  rw [← H.out] at h ⊢
  go_enter Try.func178, Try.ntmps178
  go_wp2
  go_loopw [12] (fun i wr => ∃ k : Nat, k ≤ n ∧ i = I k ∧ (t.links.take k).all (fun y => !ends y r d) = true ∧ Below w.heap.size w wr) (fun i _ => n - (intOf i).toNat)
  case atStart => exact ⟨0, by omega, rfl, rfl, ext_alloc1 _ _⟩
  case round =>
    obtain ⟨k, hk, rfl, hall, hb⟩ := hrel
    have Ha := hid hall
    clear hall
    by_cases hlt : k < n
    · obtain ⟨g, o, q, x, e, hg, hxk, c0, c1, c2, c3, c4⟩ := link_at (h.below hb) (by rw [← H.out]; exact hlt)
      rw [← H.out] at e
      cases e
      go_wp2_with (fail)
      refine (impl_ends x r d _).mono ?_
      rintro e w1 ⟨rfl, hb1⟩
      cases hv : ends x r d
      · go_wp2_with (fail)
        go_roundw
        case rel => exact ⟨k + 1, by omega, by go_num, findL_step Ha.out hxk.out hv, ext_trans (ext_alloc hb _) hb1⟩
        case measure => simp [intOf]; omega
      · go_wp2_with (fail)
        go_ret
        exact ⟨by rw [Hy.out, findL_hit Ha.out hxk.out hv]; rfl, ext_trans (ext_alloc hb _) hb1⟩
    · go_wp2
      go_ret
      have hkn : k = n := by omega
      have h1 := Ha.out
      rw [List.take_of_length_le (by rw [← H.out]; omega)] at h1
      exact ⟨by rw [Hy.out, findL_none h1]; rfl, hb⟩

theorem spec_LinkIndex (t : Topo) (cs : List Value) (r d : Int) (w : World) (h : topoT.R w cs t) (hz : sz_topo t ≤ 1048576) : Calls Try.prog 172 #[.agg cs.toArray, I r, I d] w fun e w' => e = .returned (I (idxI (findL t.links r d))) ∧ Below w.heap.size w w' := by
  obtain ⟨A0, cA0, A1, cA1, rfl, ⟨_, _⟩, ⟨h, _⟩⟩ := topo_form h
  obtain ⟨n, H⟩ : ∃ n, Hid (n = t.links.length) := ⟨_, rfl⟩
  have hn : n ≤ 1048576 := by rw [H.out]; unfold sz_topo at hz; omega
  obtain ⟨y, Hy⟩ : ∃ y, Hid (y = findL t.links r d) := ⟨_, rfl⟩
  rw [← Hy.out]
  clear hz
  rw [← H.out] at h ⊢
  have P0 : Hid ((w.alloc (.cells #[.slice A0 t.ases.length cA0, .slice A1 n cA1] 35)).cell? ⟨w.heap.size, 1, none⟩ = some (.slice A1 n cA1)) := by show _ = _; simp
  go_enter Try.func172, Try.ntmps172
  go_wp2
  go_loopw [7] (fun i wr => ∃ k : Nat, k ≤ n ∧ i = I k ∧ (t.links.take k).all (fun y => !ends y r d) = true ∧ Below w.heap.size w wr ∧ wr.cell? ⟨w.heap.size, 1, none⟩ = some (.slice A1 n cA1)) (fun i _ => n - (intOf i).toNat)
  case atStart => exact ⟨0, by omega, rfl, rfl, ext_alloc1 _ _, P0.out⟩
  case round =>
    obtain ⟨k, hk, rfl, hall, hb, p0⟩ := hrel
    have Ha := hid hall
    clear hall P0
    by_cases hlt : k < n
    · obtain ⟨g, o, q, x, e, hg, hxk, c0, c1, c2, c3, c4⟩ := link_at (h.below hb) (by rw [← H.out]; exact hlt)
      rw [← H.out] at e
      cases e
      go_wp2_with (fail)
      refine (spec_ends x r d _).mono ?_
      rintro e w1 ⟨rfl, hb1⟩
      have p1 := ck hb1 p0
      cases hv : ends x r d
      · go_wp2_with (fail)
        go_roundw
        case rel => exact ⟨k + 1, by omega, by go_num, findL_step Ha.out hxk.out hv, ext_trans hb hb1, p1⟩
        case measure => simp [intOf]; omega
      · go_wp2_with (fail)
        go_ret
        exact ⟨by rw [Hy.out, findL_hit Ha.out hxk.out hv]; rfl, ext_trans hb hb1⟩
    · go_wp2
      go_ret
      have hkn : k = n := by omega
      have h1 := Ha.out
      rw [List.take_of_length_le (by rw [← H.out]; omega)] at h1
      exact ⟨by rw [Hy.out, findL_none h1]; rfl, hb⟩

/-- What is at the other end of an interface. -/
def ifKind (t : Topo) (r d : Int) : Int :=
  if d = 0 then 5 else match (findL t.links r d).bind (t.links[·]?) with
    | none => 0
    | some l => if l.kind = 1 then 1 else if l.kind = 3 then 4 else if l.kind = 2 then (if l.a = r ∧ l.ai = d then 2 else 3) else 0

theorem kind4 (k : Int) : k = 1 ∨ k = 3 ∨ k = 2 ∨ ((k == 1) = false ∧ (k == 3) = false ∧ (k == 2) = false ∧ (k != 2) = true) := by
  simp only [beq_eq_false_iff_ne, bne_iff_ne, ne_eq]; omega


/-- The other end of the link of an interface. -/
def remote (t : Topo) (r d : Int) : Int × Int := match (findL t.links r d).bind (t.links[·]?) with
  | none => (-1, 0)
  | some l => if l.a = r ∧ l.ai = d then (l.b, l.bi) else (l.a, l.ai)

end Go.Proofs.Ytfgobdejlfojiaa
