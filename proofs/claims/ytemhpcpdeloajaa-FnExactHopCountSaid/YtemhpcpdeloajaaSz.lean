/- The measures that a law takes of its arguments: laws.szHopS .. laws.szPath: what is left, or -1. -/
import Derived.Test.YtemhpcpdeloajaaRows
import Derived.Test.YtemhpcpdeloajaaData
import Derived.WalkKit
import Derived.WalkSpells
import Derived.WalkLawsBesides
namespace Go.Proofs.Ytemhpcpdeloajaa
open Go.RowKit
set_option linter.unusedVariables false

/-- What a measure answers: what is left, -1 if there is too much. -/
def szI (left : Int) (n : Nat) : Int := if (n : Int) ≤ left then left - n else -1
theorem szI_yes {left : Int} {n : Nat} (h : (n : Int) ≤ left) : szI left n = left - n := by unfold szI; rw [if_pos h]
theorem szI_no {left : Int} {n : Nat} (h : left < (n : Int)) : szI left n = -1 := by unfold szI; rw [if_neg (by omega)]

theorem ret_int {k : IntKind} {a b : Int} (h : a = b) : Ending.returned (.int k a) = .returned (.int k b) := by rw [h]

def partsSz (ps : List Part) : Nat := ps.length + (ps.map fun p => p.hops.length).sum

theorem szHopS_c (A : Option Addr) (n c : Nat) (left : Int) (w : World) (hl : 0 ≤ left) (hl2 : left ≤ 1048576) (hn : n ≤ 9223372036854775807) :
    Calls Try.prog 100 #[.slice A n c, I left] w fun r w' => r = .returned (I (szI left n)) ∧ w = w' := by
  by_cases h : (n : Int) ≤ left
  · rw [szI_yes h]
    have h1 : ¬ left - (n : Int) < 0 := by omega
    go_enter Try.func100, Try.ntmps100
    go_wp2
    go_ret
    exact ⟨rfl, rfl⟩
  · rw [szI_no (by omega)]
    have h1 : left - (n : Int) < 0 := by omega
    go_enter Try.func100, Try.ntmps100
    go_wp2
    go_ret
    exact ⟨rfl, rfl⟩

theorem szPathPart_c (k t b : Int) (A : Option Addr) (n c : Nat) (left : Int) (w : World) (hl : 0 ≤ left) (hl2 : left ≤ 1048576) (hn : n ≤ 9223372036854775807) :
    Calls Try.prog 79 #[.agg #[I k, I t, I b, .slice A n c], I left] w fun r w' => r = .returned (I (szI left n)) ∧ Below w.heap.size w w' := by
  by_cases h : (n : Int) ≤ left
  · have h1 : ¬ left - (n : Int) < 0 := by omega
    rw [szI_yes h]
    go_enter Try.func79, Try.ntmps79
    go_wp2_with (fail)
    refine (szHopS_c A n c left _ hl hl2 hn).mono ?_
    rintro e w1 ⟨rfl, rfl⟩
    rw [szI_yes h]
    go_wp2_with (fail)
    go_ret
    exact ⟨rfl, (Below.refl _ _).alloc (Nat.le_refl _) _⟩
  · rw [szI_no (by omega)]
    go_enter Try.func79, Try.ntmps79
    go_wp2_with (fail)
    refine (szHopS_c A n c left _ hl hl2 hn).mono ?_
    rintro e w1 ⟨rfl, rfl⟩
    rw [szI_no (by omega)]
    go_wp2_with (fail)
    go_ret
    exact ⟨rfl, (Below.refl _ _).alloc (Nat.le_refl _) _⟩

theorem sum_take_succ {l : List Nat} {k x : Nat} (h : l[k]? = some x) : (l.take (k + 1)).sum = (l.take k).sum + x := by
  rw [List.take_add_one, h, List.sum_append]; simp
theorem sum_take_le (l : List Nat) (k : Nat) : (l.take k).sum ≤ l.sum := by
  have := List.take_append_drop k l
  have h2 : (l.take k ++ l.drop k).sum = l.sum := by rw [this]
  rw [List.sum_append] at h2
  omega

theorem szPathPartS_c (ps : List Part) (v : Value) (left : Int) (w : World) (h : SlR partT w v ps) (hl : 0 ≤ left) (hl2 : left ≤ 1048576) (hn : ps.length ≤ 9223372036854775807) (hm : ∀ p ∈ ps, p.hops.length ≤ 9223372036854775807) :
    Calls Try.prog 55 #[v, I left] w fun r w' => r = .returned (I (szI left (partsSz ps))) ∧ Below w.heap.size w w' := by
  obtain ⟨A, c, rfl, _⟩ := h.form
  obtain ⟨n, H⟩ : ∃ n, Hid (n = ps.length) := ⟨_, rfl⟩
  obtain ⟨ls, L⟩ : ∃ ls, Hid (ls = ps.map fun p => p.hops.length) := ⟨_, rfl⟩
  have e1 : partsSz ps = n + ls.sum := by unfold partsSz; rw [← H.out, ← L.out]
  rw [e1]
  rw [← H.out] at h hn ⊢
  have Hm := hid hm
  clear hm e1
  by_cases hbig : left < (n : Int)
  · rw [szI_no (by omega)]
    have h1 : left - (n : Int) < 0 := by omega
    go_enter Try.func55, Try.ntmps55
    go_wp2
    go_ret
    exact ⟨rfl, Below.refl _ _⟩
  · have h1 : ¬ left - (n : Int) < 0 := by omega
    go_enter Try.func55, Try.ntmps55
    go_wp2
    go_loopw [1, 5] (fun t i wr => ∃ k : Nat, k ≤ n ∧ i = I k ∧ t = I (left - n - (ls.take k).sum) ∧ ((ls.take k).sum : Int) ≤ left - n ∧ Below w.heap.size w wr) (fun _ i _ => n - (intOf i).toNat)
    case atStart => exact ⟨0, by omega, rfl, by simp, by simp; omega, Below.refl _ _⟩
    case round =>
      rename_i wr
      obtain ⟨k, hk, rfl, rfl, hs, hb⟩ := hrel
      by_cases hlt : k < n
      · obtain ⟨g, o, q, x, B, d, e, hg, hxk, hd, hin, c0, c1, c2, c3⟩ := parts_at (h.below hb) (by rw [← H.out]; exact hlt)
        rw [← H.out] at e
        cases e
        have hx1 := Hm.out x (List.mem_of_getElem? hxk.out)
        have hS : Hid ((ls.take (k + 1)).sum = (ls.take k).sum + x.hops.length) := sum_take_succ (by rw [L.out, List.getElem?_map, hxk.out]; rfl)
        obtain ⟨s, HS⟩ : ∃ s, Hid (s = (ls.take k).sum) := ⟨_, rfl⟩
        rw [← HS.out] at hs ⊢
        by_cases hfit : (x.hops.length : Int) ≤ left - n - s
        · go_wp2_with (fail)
          refine (szPathPart_c x.kind x.ts x.beta B _ d _ _ (by omega) (by omega) hx1).mono ?_
          rintro e w1 ⟨rfl, hb1⟩
          rw [szI_yes hfit]
          have h2 : ¬ left - n - s - (x.hops.length : Int) < 0 := by omega
          go_wp2_with (fail)
          go_roundw
          case rel =>
            have h3 := hS.out
            have h4 := HS.out
            exact ⟨k + 1, by omega, by go_num, by rw [h3, ← h4]; congr 1; omega, by omega, hb.trans (hb1.mono hb.size)⟩
          case measure => simp [intOf]; omega
        · go_wp2_with (fail)
          refine (szPathPart_c x.kind x.ts x.beta B _ d _ _ (by omega) (by omega) hx1).mono ?_
          rintro e w1 ⟨rfl, hb1⟩
          rw [szI_no (by omega)]
          go_wp2_with (fail)
          go_ret
          have h3 := hS.out
          have h4 := HS.out
          have h5 := sum_take_le ls (k + 1)
          exact ⟨by rw [szI_no (by omega)]; rfl, hb.trans (hb1.mono hb.size)⟩
      · go_wp2
        go_ret
        have hkn : k = n := by omega
        have h5 : (ls.take k).sum = ls.sum := by rw [List.take_of_length_le (by rw [L.out, List.length_map, ← H.out]; omega)]
        refine ⟨?_, hb⟩
        rw [szI_yes (by omega)]
        exact ret_int (by omega)

theorem szPath_c (p : Path) (v : Value) (left : Int) (w : World) (h : SlR partT w v p) (hl : 0 ≤ left) (hl2 : left ≤ 1048576) (hn : p.length ≤ 9223372036854775807) (hm : ∀ x ∈ p, x.hops.length ≤ 9223372036854775807) :
    Calls Try.prog 19 #[.agg #[v], I left] w fun r w' => r = .returned (I (szI left (partsSz p))) ∧ Below w.heap.size w w' := by
  obtain ⟨A, c, rfl, _⟩ := h.form
  have Hm := hid hm
  clear hm
  have hb0 : Below w.heap.size w (w.alloc (.cells #[.slice A p.length c] 27)) := (Below.refl _ _).alloc (Nat.le_refl _) _
  have hc := szPathPartS_c p _ left _ (h.below hb0) hl hl2 hn Hm.out
  generalize partsSz p = s at hc ⊢
  by_cases hfit : (s : Int) ≤ left
  · have h2 : ¬ left - (s : Int) < 0 := by omega
    rw [szI_yes hfit] at hc ⊢
    have HC := hid hc
    clear hc
    go_enter Try.func19, Try.ntmps19
    go_wp2_with (fail)
    refine HC.out.mono ?_
    rintro e w1 ⟨rfl, hb1⟩
    go_wp2_with (fail)
    go_ret
    exact ⟨rfl, hb0.trans (hb1.mono hb0.size)⟩
  · rw [szI_no (by omega)] at hc ⊢
    have HC := hid hc
    clear hc
    go_enter Try.func19, Try.ntmps19
    go_wp2_with (fail)
    refine HC.out.mono ?_
    rintro e w1 ⟨rfl, hb1⟩
    go_wp2_with (fail)
    go_ret
    exact ⟨rfl, hb0.trans (hb1.mono hb0.size)⟩

end Go.Proofs.Ytemhpcpdeloajaa
