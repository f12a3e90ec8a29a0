/- Valid hops; what can be encoded: ValidHop, hopsEncodable, Encodable, EncodablePath. -/
import Derived.Test.YtfgobdejlfojiaaNum
import Derived.Test.YtfgobdejlfojiaaFamPath
import Derived.BigGuard
namespace Go.Proofs.Ytfgobdejlfojiaa
open Go.RowKit
set_option linter.unusedVariables false

def validHop (h : Hop) : Bool := inR h.ia 0 7 && inR h.ing 0 6 && inR h.eg 0 6 && (h.ing != h.eg) && inR h.exp 0 1000000 && inR h.mac 0 2147483646

theorem and3 (b1 b2 b3 : Bool) : b1 = false ∨ (b1 = true ∧ b2 = false) ∨ (b1 = true ∧ b2 = true ∧ b3 = false) ∨ (b1 = true ∧ b2 = true ∧ b3 = true) := by cases b1 <;> cases b2 <;> cases b3 <;> simp
theorem and4 (b1 b2 b3 b4 : Bool) : b1 = false ∨ (b1 = true ∧ b2 = false) ∨ (b1 = true ∧ b2 = true ∧ b3 = false) ∨ (b1 = true ∧ b2 = true ∧ b3 = true ∧ b4 = false) ∨ (b1 = true ∧ b2 = true ∧ b3 = true ∧ b4 = true) := by cases b1 <;> cases b2 <;> cases b3 <;> cases b4 <;> simp
theorem and6 (b1 b2 b3 b4 b5 b6 : Bool) : b1 = false ∨ (b1 = true ∧ b2 = false) ∨ (b1 = true ∧ b2 = true ∧ b3 = false) ∨ (b1 = true ∧ b2 = true ∧ b3 = true ∧ b4 = false) ∨ (b1 = true ∧ b2 = true ∧ b3 = true ∧ b4 = true ∧ b5 = false) ∨ (b1 = true ∧ b2 = true ∧ b3 = true ∧ b4 = true ∧ b5 = true ∧ b6 = false) ∨ (b1 = true ∧ b2 = true ∧ b3 = true ∧ b4 = true ∧ b5 = true ∧ b6 = true) := by
  cases b1 <;> cases b2 <;> cases b3 <;> cases b4 <;> cases b5 <;> cases b6 <;> simp

theorem impl_ValidHop (h : Hop) (w : World) : Calls Try.prog 175 #[.agg #[I h.ia, I h.ing, I h.eg, I h.exp, I h.mac]] w fun e w' => e = .returned (.bool (validHop h)) ∧ Below w.heap.size w w' := by
  rcases and6 (inR h.ia 0 7) (inR h.ing 0 6) (inR h.eg 0 6) (h.ing != h.eg) (inR h.exp 0 1000000) (inR h.mac 0 2147483646) with h1 | ⟨h1, h2⟩ | ⟨h1, h2, h3⟩ | ⟨h1, h2, h3, h4⟩ | ⟨h1, h2, h3, h4, h5⟩ | ⟨h1, h2, h3, h4, h5, h6⟩ | ⟨h1, h2, h3, h4, h5, h6⟩
  all_goals
    go_enter Try.func175, Try.ntmps175
    go_wp2_with (first | (go_at_call 70; refine (impl_InRange _ _ _ _).mono ?_; rintro e w1 ⟨rfl, rfl⟩) | (go_at_call 139; refine (impl_isResidue _ _).mono ?_; rintro e w1 ⟨rfl, rfl⟩))
    go_ret
    exact ⟨by simp [validHop, *], ext_alloc1 _ _⟩
theorem spec_ValidHop (h : Hop) (w : World) : Calls Try.prog 130 #[.agg #[I h.ia, I h.ing, I h.eg, I h.exp, I h.mac]] w fun e w' => e = .returned (.bool (validHop h)) ∧ Below w.heap.size w w' := by
  rcases and6 (inR h.ia 0 7) (inR h.ing 0 6) (inR h.eg 0 6) (h.ing != h.eg) (inR h.exp 0 1000000) (inR h.mac 0 2147483646) with h1 | ⟨h1, h2⟩ | ⟨h1, h2, h3⟩ | ⟨h1, h2, h3, h4⟩ | ⟨h1, h2, h3, h4, h5⟩ | ⟨h1, h2, h3, h4, h5, h6⟩ | ⟨h1, h2, h3, h4, h5, h6⟩
  all_goals
    go_enter Try.func130, Try.ntmps130
    go_wp2_with (first | (go_at_call 64; refine (spec_l1In _ _ _ _).mono ?_; rintro e w1 ⟨rfl, rfl⟩) | (go_at_call 128; refine (spec_l3Ok _ _).mono ?_; rintro e w1 ⟨rfl, rfl⟩))
    go_ret
    exact ⟨by simp [validHop, *], ext_alloc1 _ _⟩

theorem all_succ {α : Type} {l : List α} {f : α → Bool} {k : Nat} {x : α} (h : (l.take k).all f = true) (hx : l[k]? = some x) (hf : f x = true) : (l.take (k + 1)).all f = true := by
  rw [take_succ hx, List.all_append, h]; simp [hf]
theorem all_bad {α : Type} {l : List α} {f : α → Bool} {k : Nat} {x : α} (hx : l[k]? = some x) (hf : f x = false) : l.all f = false := by
  rw [List.all_eq_false]
  exact ⟨x, List.mem_of_getElem? hx, by simp [hf]⟩

def encHops (hs : List Hop) : Bool := decide (hs.length ≤ 8) && hs.all validHop

theorem impl_hopsEncodable (hs : List Hop) (v : Value) (w : World) (h : SlR hopT w v hs) (hn : hs.length ≤ 1048576) : Calls Try.prog 152 #[v] w fun e w' => e = .returned (.bool (encHops hs)) ∧ Below w.heap.size w w' := by
  obtain ⟨A, c, rfl, _⟩ := h.form
  obtain ⟨n, H⟩ : ∃ n, Hid (n = hs.length) := ⟨_, rfl⟩
  obtain ⟨r, Hr⟩ : ∃ r, Hid (r = encHops hs) := ⟨_, rfl⟩
  rw [← Hr.out]
  rw [← H.out] at h hn ⊢
  by_cases h8 : 8 < n
  · have HR : Hid (r = false) := by show r = _; rw [Hr.out]; unfold encHops; rw [← H.out]; simp; omega
    go_enter Try.func152, Try.ntmps152
    go_wp2
    go_ret
    exact ⟨by rw [HR.out]; rfl, Below.refl _ _⟩
  · have HR : Hid (r = hs.all validHop) := by show r = _; rw [Hr.out]; unfold encHops; rw [← H.out]; simp; omega
    clear Hr
    go_enter Try.func152, Try.ntmps152
    go_wp2
    go_loopw [10] (fun i wr => ∃ k : Nat, k ≤ n ∧ i = I k ∧ (hs.take k).all validHop = true ∧ Below w.heap.size w wr) (fun i _ => n - (intOf i).toNat)
    case atStart => exact ⟨0, by omega, rfl, rfl, Below.refl _ _⟩
    case round =>
      rename_i wr
      obtain ⟨k, hk, rfl, hall, hb⟩ := hrel
      have Ha := hid hall
      clear hall
      by_cases hlt : k < n
      · obtain ⟨g, o, q, x, e, hg, hxk, c0, c1, c2, c3, c4⟩ := hop_at (h.below hb) (by rw [← H.out]; exact hlt)
        rw [← H.out] at e
        cases e
        go_wp2_with (fail)
        refine (impl_ValidHop x _).mono ?_
        rintro e w1 ⟨rfl, hb1⟩
        cases hv : validHop x
        · go_wp2_with (fail)
          go_ret
          exact ⟨by rw [HR.out, all_bad hxk.out hv]; rfl, ext_trans (ext_alloc hb _) hb1⟩
        · go_wp2_with (fail)
          go_roundw
          case rel => exact ⟨k + 1, by omega, by go_num, all_succ Ha.out hxk.out hv, ext_trans (ext_alloc hb _) hb1⟩
          case measure => simp [intOf]; omega
      · go_wp2
        go_ret
        have hkn : k = n := by omega
        have h1 := Ha.out
        rw [List.take_of_length_le (by rw [← H.out]; omega)] at h1
        exact ⟨by rw [HR.out, h1]; rfl, hb⟩

theorem spec_Encodable (ts beta : Int) (hs : List Hop) (v : Value) (w : World) (h : SlR hopT w v hs) (hn : hs.length ≤ 1048576) :
    Calls Try.prog 184 #[.agg #[I ts, I beta, v]] w fun e w' => e = .returned (.bool (inR ts 0 1000000 && inR beta 0 2147483646 && encHops hs)) ∧ Below w.heap.size w w' := by
  obtain ⟨A, c, rfl, _⟩ := h.form
  obtain ⟨n, H⟩ : ∃ n, Hid (n = hs.length) := ⟨_, rfl⟩
  obtain ⟨r, Hr⟩ : ∃ r, Hid (r = (inR ts 0 1000000 && inR beta 0 2147483646 && encHops hs)) := ⟨_, rfl⟩
  rw [← Hr.out]
  rw [← H.out] at h hn ⊢
  have hb0 : Below w.heap.size w (w.alloc (.cells #[I ts, I beta, .slice A n c] 179)) := ext_alloc1 _ _
  rcases and3 (inR ts 0 1000000) (inR beta 0 2147483646) (decide (n ≤ 8)) with h1 | ⟨h1, h2⟩ | ⟨h1, h2, h3⟩ | ⟨h1, h2, h3⟩
  · have HR : Hid (r = false) := by show r = _; rw [Hr.out]; simp [h1]
    go_enter Try.func184, Try.ntmps184
    go_wp2_with (first | (go_at_call 64; refine (spec_l1In _ _ _ _).mono ?_; rintro e w1 ⟨rfl, rfl⟩) | (go_at_call 128; refine (spec_l3Ok _ _).mono ?_; rintro e w1 ⟨rfl, rfl⟩))
    go_ret
    exact ⟨by rw [HR.out]; rfl, hb0⟩
  · have HR : Hid (r = false) := by show r = _; rw [Hr.out]; simp [h2]
    go_enter Try.func184, Try.ntmps184
    go_wp2_with (first | (go_at_call 64; refine (spec_l1In _ _ _ _).mono ?_; rintro e w1 ⟨rfl, rfl⟩) | (go_at_call 128; refine (spec_l3Ok _ _).mono ?_; rintro e w1 ⟨rfl, rfl⟩))
    go_ret
    exact ⟨by rw [HR.out]; rfl, hb0⟩
  · have HR : Hid (r = false) := by show r = _; rw [Hr.out]; unfold encHops; rw [← H.out, h3]; simp
    have h8 : 8 < n := by simpa using h3
    clear h3
    go_enter Try.func184, Try.ntmps184
    go_wp2_with (first | (go_at_call 64; refine (spec_l1In _ _ _ _).mono ?_; rintro e w1 ⟨rfl, rfl⟩) | (go_at_call 128; refine (spec_l3Ok _ _).mono ?_; rintro e w1 ⟨rfl, rfl⟩))
    go_ret
    exact ⟨by rw [HR.out]; rfl, hb0⟩
  · have HR : Hid (r = hs.all validHop) := by show r = _; rw [Hr.out]; unfold encHops; rw [← H.out, h3]; simp [h1, h2]
    have h8 : ¬ 8 < n := by have : n ≤ 8 := by simpa using h3
                            omega
    clear h3 Hr
    have P0 : Hid ((w.alloc (.cells #[I ts, I beta, .slice A n c] 179)).cell? ⟨w.heap.size, 2, none⟩ = some (.slice A n c)) := by show _ = _; simp
    go_enter Try.func184, Try.ntmps184
    go_wp2_with (first | (go_at_call 64; refine (spec_l1In _ _ _ _).mono ?_; rintro e w1 ⟨rfl, rfl⟩) | (go_at_call 128; refine (spec_l3Ok _ _).mono ?_; rintro e w1 ⟨rfl, rfl⟩))
    go_loopw [3] (fun i wr => ∃ k : Nat, k ≤ n ∧ i = I k ∧ (hs.take k).all validHop = true ∧ Below w.heap.size w wr ∧ wr.cell? ⟨w.heap.size, 2, none⟩ = some (.slice A n c)) (fun i _ => n - (intOf i).toNat)
    case atStart => exact ⟨0, by omega, rfl, rfl, hb0, P0.out⟩
    case round =>
      rename_i wr
      obtain ⟨k, hk, rfl, hall, hb, p0⟩ := hrel
      have Ha := hid hall
      clear hall P0 hb0
      by_cases hlt : k < n
      · obtain ⟨g, o, q, x, e, hg, hxk, c0, c1, c2, c3, c4⟩ := hop_at (h.below hb) (by rw [← H.out]; exact hlt)
        rw [← H.out] at e
        cases e
        go_wp2_with (fail)
        refine (spec_ValidHop x _).mono ?_
        rintro e w1 ⟨rfl, hb1⟩
        cases hv : validHop x
        · go_wp2_with (fail)
          go_ret
          exact ⟨by rw [HR.out, all_bad hxk.out hv]; rfl, ext_trans hb hb1⟩
        · have p1 := ck hb1 p0
          go_wp2_with (fail)
          go_roundw
          case rel => exact ⟨k + 1, by omega, by go_num, all_succ Ha.out hxk.out hv, ext_trans hb hb1, p1⟩
          case measure => simp [intOf]; omega
      · go_wp2
        go_ret
        have hkn : k = n := by omega
        have h1 := Ha.out
        rw [List.take_of_length_le (by rw [← H.out]; omega)] at h1
        exact ⟨by rw [HR.out, h1]; rfl, hb⟩

def encPart (p : Part) : Bool := inR p.kind 1 4 && (inR p.ts 0 1000000 && inR p.beta 0 2147483646 && encHops p.hops)
def encPath (p : Path) : Bool := decide (p.length ≤ 3) && p.all encPart

theorem mem_sz_part {p : Path} {x : Part} (h : x ∈ p) : x.hops.length ≤ sz_path p := by
  have := le_sum_of_mem (List.mem_map.2 ⟨x, h, rfl⟩ : sz_part x ∈ p.map sz_part)
  show _ ≤ List.length p + _
  have e : sz_part x = x.hops.length := rfl
  omega

theorem impl_EncodablePath (p : Path) (cs : List Value) (w : World) (h : pathT.R w cs p) (hz : sz_path p ≤ 1048576) (hl : lenOk_path p) (hg : rng_path p) :
    Calls Try.prog 98 #[.agg cs.toArray] w fun e w' => e = .returned (.bool (encPath p)) ∧ Below w.heap.size w w' := by
  obtain ⟨A, c, rfl, ⟨h, _⟩⟩ := path_form h
  obtain ⟨n, H⟩ : ∃ n, Hid (n = p.length) := ⟨_, rfl⟩
  obtain ⟨r, Hr⟩ : ∃ r, Hid (r = encPath p) := ⟨_, rfl⟩
  have hn : n ≤ 1048576 := by rw [H.out]; have : sz_path p = List.length p + (p.map sz_part).sum := rfl; omega
  have Hz := hid hz
  clear hz hl hg
  rw [← Hr.out]
  rw [← H.out] at h ⊢
  have hb0 : Below w.heap.size w (w.alloc (.cells #[.slice A n c] 39)) := ext_alloc1 _ _
  by_cases h3 : 3 < n
  · have HR : Hid (r = false) := by show r = _; rw [Hr.out]; unfold encPath; rw [← H.out]; simp; omega
    go_enter Try.func98, Try.ntmps98
    go_wp2
    go_ret
    exact ⟨by rw [HR.out]; rfl, hb0⟩
  · have HR : Hid (r = p.all encPart) := by show r = _; rw [Hr.out]; unfold encPath; rw [← H.out]; simp; omega
    clear Hr
    go_enter Try.func98, Try.ntmps98
    go_wp2
    go_loopw [12] (fun i wr => ∃ k : Nat, k ≤ n ∧ i = I k ∧ (p.take k).all encPart = true ∧ Below w.heap.size w wr) (fun i _ => n - (intOf i).toNat)
    case atStart => exact ⟨0, by omega, rfl, rfl, hb0⟩
    case round =>
      rename_i wr
      obtain ⟨k, hk, rfl, hall, hb⟩ := hrel
      have Ha := hid hall
      clear hall hb0
      by_cases hlt : k < n
      · obtain ⟨g, o, q, x, B, d, e, hg, hxk, hin, hd, c0, c1, c2, c3⟩ := part_at (h.below hb) (by rw [← H.out]; exact hlt)
        rw [← H.out] at e
        cases e
        have hx1 : x.hops.length ≤ 1048576 := Nat.le_trans (mem_sz_part (List.mem_of_getElem? hxk.out)) Hz.out
        rcases and4 (inR x.kind 1 4) (inR x.ts 0 1000000) (inR x.beta 0 2147483646) (encHops x.hops) with h1 | ⟨h1, h2⟩ | ⟨h1, h2, h3⟩ | ⟨h1, h2, h3, h4⟩ | ⟨h1, h2, h3, h4⟩
        · have Hv : Hid (encPart x = false) := by show _ = _; simp [encPart, h1]
          go_wp2_with (first | (go_at_call 70; refine (impl_InRange _ _ _ _).mono ?_; rintro e w1 ⟨rfl, rfl⟩))
          go_ret
          exact ⟨by rw [HR.out, all_bad hxk.out Hv.out]; rfl, ext_alloc hb _⟩
        · have Hv : Hid (encPart x = false) := by show _ = _; simp [encPart, h2]
          go_wp2_with (first | (go_at_call 70; refine (impl_InRange _ _ _ _).mono ?_; rintro e w1 ⟨rfl, rfl⟩))
          go_ret
          exact ⟨by rw [HR.out, all_bad hxk.out Hv.out]; rfl, ext_alloc hb _⟩
        · have Hv : Hid (encPart x = false) := by show _ = _; simp [encPart, h3]
          go_wp2_with (first | (go_at_call 70; refine (impl_InRange _ _ _ _).mono ?_; rintro e w1 ⟨rfl, rfl⟩) | (go_at_call 139; refine (impl_isResidue _ _).mono ?_; rintro e w1 ⟨rfl, rfl⟩))
          go_ret
          exact ⟨by rw [HR.out, all_bad hxk.out Hv.out]; rfl, ext_alloc hb _⟩
        · have Hv : Hid (encPart x = false) := by show _ = _; simp [encPart, h4]
          go_wp2_with (first | (go_at_call 70; refine (impl_InRange _ _ _ _).mono ?_; rintro e w1 ⟨rfl, rfl⟩) | (go_at_call 139; refine (impl_isResidue _ _).mono ?_; rintro e w1 ⟨rfl, rfl⟩) | (go_at_call 152; refine (impl_hopsEncodable _ _ _ (hin.below (ext_alloc1 _ _)) hx1).mono ?_; rintro e w2 ⟨rfl, hb2⟩))
          go_ret
          exact ⟨by rw [HR.out, all_bad hxk.out Hv.out]; rfl, ext_trans (ext_alloc hb _) hb2⟩
        · have Hv : Hid (encPart x = true) := by show _ = _; simp [encPart, h1, h2, h3, h4]
          go_wp2_with (first | (go_at_call 70; refine (impl_InRange _ _ _ _).mono ?_; rintro e w1 ⟨rfl, rfl⟩) | (go_at_call 139; refine (impl_isResidue _ _).mono ?_; rintro e w1 ⟨rfl, rfl⟩) | (go_at_call 152; refine (impl_hopsEncodable _ _ _ (hin.below (ext_alloc1 _ _)) hx1).mono ?_; rintro e w2 ⟨rfl, hb2⟩))
          go_roundw
          case rel => exact ⟨k + 1, by omega, by go_num, all_succ Ha.out hxk.out Hv.out, ext_trans (ext_alloc hb _) hb2⟩
          case measure => simp [intOf]; omega
      · go_wp2
        go_ret
        have hkn : k = n := by omega
        have h1 := Ha.out
        rw [List.take_of_length_le (by rw [← H.out]; omega)] at h1
        exact ⟨by rw [HR.out, h1]; rfl, hb⟩

theorem spec_EncodablePath (p : Path) (cs : List Value) (w : World) (h : pathT.R w cs p) (hz : sz_path p ≤ 1048576) (hl : lenOk_path p) (hg : rng_path p) :
    Calls Try.prog 150 #[.agg cs.toArray] w fun e w' => e = .returned (.bool (encPath p)) ∧ Below w.heap.size w w' := by
  obtain ⟨A, c, rfl, ⟨h, _⟩⟩ := path_form h
  obtain ⟨n, H⟩ : ∃ n, Hid (n = p.length) := ⟨_, rfl⟩
  obtain ⟨r, Hr⟩ : ∃ r, Hid (r = encPath p) := ⟨_, rfl⟩
  have hn : n ≤ 1048576 := by rw [H.out]; have : sz_path p = List.length p + (p.map sz_part).sum := rfl; omega
  have Hz := hid hz
  clear hz hl hg
  rw [← Hr.out]
  rw [← H.out] at h ⊢
  have hb0 : Below w.heap.size w (w.alloc (.cells #[.slice A n c] 39)) := ext_alloc1 _ _
  by_cases h3 : 3 < n
  · have HR : Hid (r = false) := by show r = _; rw [Hr.out]; unfold encPath; rw [← H.out]; simp; omega
    go_enter Try.func150, Try.ntmps150
    go_wp2
    go_ret
    exact ⟨by rw [HR.out]; rfl, hb0⟩
  · have HR : Hid (r = p.all encPart) := by show r = _; rw [Hr.out]; unfold encPath; rw [← H.out]; simp; omega
    clear Hr
    have P0 : Hid ((w.alloc (.cells #[.slice A n c] 39)).cell? ⟨w.heap.size, 0, none⟩ = some (.slice A n c)) := by show _ = _; simp
    go_enter Try.func150, Try.ntmps150
    go_wp2
    go_loopw [3] (fun i wr => ∃ k : Nat, k ≤ n ∧ i = I k ∧ (p.take k).all encPart = true ∧ Below w.heap.size w wr ∧ wr.cell? ⟨w.heap.size, 0, none⟩ = some (.slice A n c)) (fun i _ => n - (intOf i).toNat)
    case atStart => exact ⟨0, by omega, rfl, rfl, hb0, P0.out⟩
    case round =>
      rename_i wr
      obtain ⟨k, hk, rfl, hall, hb, p0⟩ := hrel
      have Ha := hid hall
      clear hall hb0 P0
      by_cases hlt : k < n
      · obtain ⟨g, o, q, x, B, d, e, hg, hxk, hin, hd, c0, c1, c2, c3⟩ := part_at (h.below hb) (by rw [← H.out]; exact hlt)
        rw [← H.out] at e
        cases e
        have hx1 : x.hops.length ≤ 1048576 := Nat.le_trans (mem_sz_part (List.mem_of_getElem? hxk.out)) Hz.out
        obtain ⟨bb, Hb⟩ : ∃ bb, Hid (bb = (inR x.ts 0 1000000 && inR x.beta 0 2147483646 && encHops x.hops)) := ⟨_, rfl⟩
        cases h1 : inR x.kind 1 4
        · have Hv : Hid (encPart x = false) := by show _ = _; simp [encPart, h1]
          go_wp2_with (first | (go_at_call 64; refine (spec_l1In _ _ _ _).mono ?_; rintro e w1 ⟨rfl, rfl⟩))
          go_ret
          exact ⟨by rw [HR.out, all_bad hxk.out Hv.out]; rfl, ext_alloc hb _⟩
        · have Hv : Hid (encPart x = bb) := by show _ = _; unfold encPart; rw [h1, Hb.out]; rfl
          cases bb
          · go_wp2_with (first | (go_at_call 64; refine (spec_l1In _ _ _ _).mono ?_; rintro e w1 ⟨rfl, rfl⟩) | (go_at_call 184; refine (spec_Encodable _ _ _ _ _ (hin.below (ext_alloc1 _ _)) hx1).mono ?_; rintro e w2 ⟨rfl, hb2⟩; rw [← Hb.out]; have p2 := ck hb2 (ck (ext_alloc1 _ _) p0)))
            go_ret
            exact ⟨by rw [HR.out, all_bad hxk.out Hv.out]; rfl, ext_trans (ext_alloc hb _) hb2⟩
          · go_wp2_with (first | (go_at_call 64; refine (spec_l1In _ _ _ _).mono ?_; rintro e w1 ⟨rfl, rfl⟩) | (go_at_call 184; refine (spec_Encodable _ _ _ _ _ (hin.below (ext_alloc1 _ _)) hx1).mono ?_; rintro e w2 ⟨rfl, hb2⟩; rw [← Hb.out]; have p2 := ck hb2 (ck (ext_alloc1 _ _) p0)))
            go_roundw
            case rel => exact ⟨k + 1, by omega, by go_num, all_succ Ha.out hxk.out Hv.out, ext_trans (ext_alloc hb _) hb2, p2⟩
            case measure => simp [intOf]; omega
      · go_wp2
        go_ret
        have hkn : k = n := by omega
        have h1 := Ha.out
        rw [List.take_of_length_le (by rw [← H.out]; omega)] at h1
        exact ⟨by rw [HR.out, h1]; rfl, hb⟩

end Go.Proofs.Ytfgobdejlfojiaa
